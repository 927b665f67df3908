/- Packets sealed and opened again, in plain Lean: the same; no condition. -/
import Derived.Test.YtgfdlpcdjklcoaaDoorSeal2
namespace Go.Proofs.YtgfdlpcdjklcoaaDoor
open Go Go.RowKit
set_option linter.unusedVariables false
set_option maxRecDepth 20000
def beN (xs : List UInt8) : Nat → Nat
  | 0 => 0
  | i + 1 => beN xs i * 256 + (xs.getD i 0).toNat
theorem beN_lt (xs : List UInt8) : ∀ i, beN xs i < 2 ^ (8 * i)
  | 0 => by simp [beN]
  | i + 1 => by
    have h1 := beN_lt xs i
    have h2 := (xs.getD i 0).toNat_lt
    simp only [beN]
    rw [show 8 * (i + 1) = 8 * i + 8 by omega, Nat.pow_add, show (2:Nat)^8 = 256 by decide]; omega
theorem be_toNat (xs : List UInt8) : ∀ i, i ≤ 8 → (be xs i).toNat = beN xs i
  | 0, _ => rfl
  | i + 1, h => by
    have ih := be_toNat xs i (by omega)
    have h1 := beN_lt xs (i + 1)
    have h5 : 2 ^ (8 * (i + 1)) ≤ 2 ^ 64 := Nat.pow_le_pow_right (by omega) (by omega)
    have h2 := (xs.getD i 0).toNat_lt
    simp only [beN] at h1 ⊢
    simp only [be, UInt64.toNat_or, UInt64.toNat_shiftLeft, ih, UInt8.toNat_toUInt64]
    rw [show (8 : UInt64).toNat % 64 = 8 from rfl, Nat.shiftLeft_eq, show (2:Nat)^8 = 256 by decide, Nat.mod_eq_of_lt (by omega)]
    have := Nat.two_pow_add_eq_or_of_lt (i := 8) (b := (xs.getD i 0).toNat) (by omega) (beN xs i)
    rw [show (2:Nat)^8 = 256 by decide, Nat.mul_comm] at this
    exact this.symm
theorem byte_of (n : UInt64) (k : UInt64) (j : Nat) (hk : k.toNat = j) (hj : j < 64) : ((n >>> k).toUInt8).toNat = n.toNat / 2 ^ j % 256 := by
  rw [UInt64.toNat_toUInt8, UInt64.toNat_shiftRight, hk, Nat.mod_eq_of_lt hj, Nat.shiftRight_eq_div_pow]
theorem be_bigL (n : UInt64) (t : List UInt8) : be (bigL n ++ t) 8 = n := by
  apply UInt64.toNat_inj.1
  rw [be_toNat _ 8 (by omega)]
  have hn := n.toNat_lt
  have b0 := byte_of n 56 56 rfl (by omega)
  have b1 := byte_of n 48 48 rfl (by omega)
  have b2 := byte_of n 40 40 rfl (by omega)
  have b3 := byte_of n 32 32 rfl (by omega)
  have b4 := byte_of n 24 24 rfl (by omega)
  have b5 := byte_of n 16 16 rfl (by omega)
  have b6 := byte_of n 8 8 rfl (by omega)
  have b7 : n.toUInt8.toNat = n.toNat % 256 := UInt64.toNat_toUInt8 n
  simp only [beN, bigL, List.cons_append, List.getD_cons_zero, List.getD_cons_succ, b0, b1, b2, b3, b4, b5, b6, b7]
  omega
theorem bigL_be {xs : List UInt8} (h : 8 ≤ xs.length) : bigL (be xs 8) = xs.take 8 := by
  match xs, h with
  | x0 :: x1 :: x2 :: x3 :: x4 :: x5 :: x6 :: x7 :: r, _ =>
    have hb := be_toNat (x0 :: x1 :: x2 :: x3 :: x4 :: x5 :: x6 :: x7 :: r) 8 (by omega)
    generalize be (x0 :: x1 :: x2 :: x3 :: x4 :: x5 :: x6 :: x7 :: r) 8 = n at *
    simp only [beN, List.getD_cons_zero, List.getD_cons_succ] at hb
    have t0 := x0.toNat_lt
    have t1 := x1.toNat_lt
    have t2 := x2.toNat_lt
    have t3 := x3.toNat_lt
    have t4 := x4.toNat_lt
    have t5 := x5.toNat_lt
    have t6 := x6.toNat_lt
    have t7 := x7.toNat_lt
    have b0 := byte_of n 56 56 rfl (by omega)
    have b1 := byte_of n 48 48 rfl (by omega)
    have b2 := byte_of n 40 40 rfl (by omega)
    have b3 := byte_of n 32 32 rfl (by omega)
    have b4 := byte_of n 24 24 rfl (by omega)
    have b5 := byte_of n 16 16 rfl (by omega)
    have b6 := byte_of n 8 8 rfl (by omega)
    have b7 : n.toUInt8.toNat = n.toNat % 256 := UInt64.toNat_toUInt8 n
    obtain ⟨N, hN⟩ : ∃ N, N = n.toNat := ⟨_, rfl⟩
    rw [← hN] at hb b0 b1 b2 b3 b4 b5 b6 b7
    clear hN
    have e0 : (n >>> 56).toUInt8 = x0 := UInt8.toNat_inj.1 (b0.trans (by omega))
    have e1 : (n >>> 48).toUInt8 = x1 := UInt8.toNat_inj.1 (b1.trans (by omega))
    have e2 : (n >>> 40).toUInt8 = x2 := UInt8.toNat_inj.1 (b2.trans (by omega))
    have e3 : (n >>> 32).toUInt8 = x3 := UInt8.toNat_inj.1 (b3.trans (by omega))
    have e4 : (n >>> 24).toUInt8 = x4 := UInt8.toNat_inj.1 (b4.trans (by omega))
    have e5 : (n >>> 16).toUInt8 = x5 := UInt8.toNat_inj.1 (b5.trans (by omega))
    have e6 : (n >>> 8).toUInt8 = x6 := UInt8.toNat_inj.1 (b6.trans (by omega))
    have e7 : n.toUInt8 = x7 := UInt8.toNat_inj.1 (b7.trans (by omega))
    simp only [bigL, e0, e1, e2, e3, e4, e5, e6, e7, List.take_succ_cons, List.take_zero]
theorem be_top {xs : List UInt8} (h : 8 ≤ xs.length) (h0 : (xs.getD 0 0).toNat ≤ 63) : (be xs 8).toNat ≤ 4611686018427387903 := by
  match xs, h with
  | x0 :: x1 :: x2 :: x3 :: x4 :: x5 :: x6 :: x7 :: r, _ =>
    rw [be_toNat _ 8 (by omega)]
    simp only [beN, List.getD_cons_zero, List.getD_cons_succ] at h0 ⊢
    have t1 := x1.toNat_lt
    have t2 := x2.toNat_lt
    have t3 := x3.toNat_lt
    have t4 := x4.toNat_lt
    have t5 := x5.toNat_lt
    have t6 := x6.toNat_lt
    have t7 := x7.toNat_lt
    omega
theorem top_big {n : UInt64} (h : n.toNat ≤ 4611686018427387903) (t : List UInt8) : ((bigL n ++ t).getD 0 0).toNat ≤ 63 := by
  have b0 := byte_of n 56 56 rfl (by omega)
  simp only [bigL, List.cons_append, List.getD_cons_zero, b0]
  omega
theorem maskL_mask (ks : List UInt8) (side : UInt8) (n : UInt64) (xs : List UInt8) : maskL ks side n (maskL ks side n xs) = xs := by
  have hl : ∀ m, (strL ks side n m).length = m := fun m => by simp [strL]
  have h1 : (maskL ks side n xs).length = xs.length := by rw [maskL, xorL_length _ _ (by rw [hl]; exact Nat.le_refl _), hl]
  rw [maskL, h1]
  apply List.ext_getElem
  · rw [xorL_length _ _ (by rw [hl, h1]; exact Nat.le_refl _), hl]
  · intro i h2 h3
    simp only [xorL, maskL, List.getElem_zipWith]
    rw [UInt8.xor_assoc, UInt8.xor_self, UInt8.xor_zero]
theorem openL_big {ks : List UInt8} {side : UInt8} {xs : List UInt8} (h : 300 < xs.length) : openL ks side xs = none := by
  rw [openL, if_pos (.inr h)]
theorem openL_seal (ks : List UInt8) (side : UInt8) (n : UInt64) (xs : List UInt8) (hn : n.toNat ≤ 4611686018427387903) (hl : 16 + xs.length ≤ 300) : openL ks side (sealL ks side n xs) = some (n, xs) := by
  have hs : ∀ m, (strL ks side n m).length = m := fun m => by simp [strL]
  have hm : (maskL ks side n xs).length = xs.length := by rw [maskL, xorL_length _ _ (by rw [hs]; exact Nat.le_refl _), hs]
  have ht : (tagL ks side n (maskL ks side n xs)).length = 8 := rfl
  have hbl : (bigL n).length = 8 := rfl
  have hlen : (sealL ks side n xs).length = 16 + xs.length := by
    rw [sealL, List.length_append, List.length_append, hm, ht, hbl]; omega
  have hbe : be (sealL ks side n xs) 8 = n := by rw [sealL, List.append_assoc]; exact be_bigL n _
  have hdrop : (sealL ks side n xs).drop (xs.length + 8) = tagL ks side n (maskL ks side n xs) := by
    rw [sealL, List.drop_left' (by rw [List.length_append, hm, hbl]; omega)]
  have hbody : bodyL (sealL ks side n xs) = maskL ks side n xs := by
    rw [bodyL, hlen, show 16 + xs.length - 8 = xs.length + 8 by omega, sealL, List.take_left' (by rw [List.length_append, hm, hbl]; omega), List.drop_left' hbl]
  unfold openL
  rw [hlen, if_neg (by omega), hbe, hbody, show 16 + xs.length - 8 = xs.length + 8 by omega, hdrop, if_neg (by simp; omega), maskL_mask]
/-- whether a packet's tag is right -/
def tagOk (ks : List UInt8) (side : UInt8) (xs : List UInt8) : Bool := decide (bigL (sip ks ([side, 2] ++ xs.take (xs.length - 8))) = xs.drop (xs.length - 8))
theorem openL_tag {ks : List UInt8} {side : UInt8} {xs : List UInt8} (h1 : 16 ≤ xs.length) (h2 : xs.length ≤ 300) (h0 : (xs.getD 0 0).toNat ≤ 63) :
    (openL ks side xs = none ∧ tagOk ks side xs = false) ∨ (∃ z, openL ks side xs = some z ∧ tagOk ks side xs = true) := by
  have ht : tagL ks side (be xs 8) (bodyL xs) = bigL (sip ks ([side, 2] ++ xs.take (xs.length - 8))) := by
    unfold tagL hdr bodyL
    rw [bigL_be (by omega), List.append_assoc]
    have e : xs.take 8 = (xs.take (xs.length - 8)).take 8 := by rw [List.take_take, Nat.min_eq_left (by omega)]
    rw [e, List.take_append_drop]
  unfold openL tagOk
  rw [if_neg (by omega), ht]
  have hb := be_top (by omega : 8 ≤ xs.length) h0
  by_cases hc : bigL (sip ks ([side, 2] ++ xs.take (xs.length - 8))) = xs.drop (xs.length - 8)
  · right
    rw [if_neg (fun h => h.elim (fun h => by omega) (fun h => h hc))]
    exact ⟨_, rfl, decide_eq_true hc⟩
  · left
    rw [if_pos (.inr hc)]
    exact ⟨rfl, decide_eq_false hc⟩
end Go.Proofs.YtgfdlpcdjklcoaaDoor
