/- Contracts of package seal: sealing and opening; no condition. -/
import Derived.Test.YtgfdlpcdjklcoaaDoorSeal
namespace Go.Proofs.YtgfdlpcdjklcoaaDoor
open Go Go.RowKit
set_option linter.unusedVariables false
set_option maxRecDepth 20000
variable {B : World}
def bigL (n : UInt64) : List UInt8 := [(n >>> 56).toUInt8, (n >>> 48).toUInt8, (n >>> 40).toUInt8, (n >>> 32).toUInt8, (n >>> 24).toUInt8, (n >>> 16).toUInt8, (n >>> 8).toUInt8, n.toUInt8]

theorem big_spec (n : UInt64) (p : Option Addr) (b o c : Nat) (xs : List UInt8) (s : List Value) (R : HP) (hs : Sl p b o xs.length c) (hc : xs.length * 1 + s.length = c * 1) (hx : xs.length < 100000000) :
    Fn Tryd.prog B 57 [.slice p xs.length c, u64 n] (arr b o xs s * R) (fun v H' => IsSl R (xs ++ bigL n) v H') := by
  refine fn_intro Tryd.func57 rfl rfl rfl ?_
  refine w_seq ?_
  refine w_region rfl ?_
  refine l_val (v_assign rfl) rfl ?_
  refine l_nil ?_
  refine a_normal ?_
  refine w_seq ?_
  refine w_region rfl ?_
  refine l_val (v_move rfl) rfl ?_
  refine l_val (v_move rfl) rfl ?_
  refine l_val (v_shr64 (j := 56) rfl rfl (by omega)) rfl ?_
  refine l_val (v_to8 rfl) rfl ?_
  refine l_val (v_move rfl) rfl ?_
  refine l_val (v_shr64 (j := 48) rfl rfl (by omega)) rfl ?_
  refine l_val (v_to8 rfl) rfl ?_
  refine l_val (v_move rfl) rfl ?_
  refine l_val (v_shr64 (j := 40) rfl rfl (by omega)) rfl ?_
  refine l_val (v_to8 rfl) rfl ?_
  refine l_val (v_move rfl) rfl ?_
  refine l_val (v_shr64 (j := 32) rfl rfl (by omega)) rfl ?_
  refine l_val (v_to8 rfl) rfl ?_
  refine l_val (v_move rfl) rfl ?_
  refine l_val (v_shr64 (j := 24) rfl rfl (by omega)) rfl ?_
  refine l_val (v_to8 rfl) rfl ?_
  refine l_val (v_move rfl) rfl ?_
  refine l_val (v_shr64 (j := 16) rfl rfl (by omega)) rfl ?_
  refine l_val (v_to8 rfl) rfl ?_
  refine l_val (v_move rfl) rfl ?_
  refine l_val (v_shr64 (j := 8) rfl rfl (by omega)) rfl ?_
  refine l_val (v_to8 rfl) rfl ?_
  refine l_val (v_move rfl) rfl ?_
  refine l_val (v_to8 rfl) rfl ?_
  refine l_eff (e_mk1 rfl rfl (by simp [Value.oneCell']) rfl rfl rfl) rfl ?_
  rintro _ _ ⟨b29, rfl, rfl⟩
  refine l_heap (H' := arr b o xs s * (HP.pts b29 0 (flat (bigL n)) * R)) (by rw [HP.left_comm]; rfl) ?_
  refine l_eff (e_append (ys := bigL n) (bb := b29) (oo := 0) rfl hs hc rfl ⟨.inr rfl, Nat.le_refl _⟩ inferInstance rfl (by simp [bigL]; omega) (by omega)) rfl ?_
  rintro _ _ ⟨q, b', o', c', s', rfl, h1, h2, rfl⟩
  refine l_val (v_assign rfl) rfl ?_
  refine l_nil ?_
  refine a_normal ?_
  refine w_ret ?_
  exact a_retD (ts := [4]) (arr b' o' (xs ++ bigL n) s' * R) rfl rfl ⟨q, b', o', c', s', rfl, h1, h2, rfl⟩

theorem big_nil (n : UInt64) (R : HP) : Fn Tryd.prog B 57 [.slice none 0 0, u64 n] R (fun v H' => IsSl R (bigL n) v H') := by
  have h := big_spec (B := B) n none 0 0 0 [] [] R ⟨.inl rfl, Nat.le_refl _⟩ rfl (by simp)
  rw [arr_nil, HP.emp_mul] at h
  exact h

def sideB (first : Bool) : UInt8 := bif first then 0 else 1
theorem flat16 {ks : List UInt8} (hk : ks.length = 16) : (flat ks).length = 16 := by rw [flat_length, hk]; rfl

theorem sealer_spec (ks : List UInt8) (hk : ks.length = 16) (first : Bool) (H : HP) :
    Fn Tryd.prog B 42 [.agg (flat ks).toArray, .bool first] H (fun v H' => v = .agg (flat ks ++ [u8 (sideB first)]).toArray ∧ H' = H) := by
  refine fn_intro Tryd.func42 rfl rfl rfl ?_
  refine w_seq ?_
  refine w_region rfl ?_
  refine l_eff (e_box (l := flat ks) rfl rfl) rfl ?_
  rintro _ _ ⟨b2, rfl, rfl⟩
  refine l_eff (e_alloc (l := [_, _, _, _, _, _, _, _, _, _, _, _, _, _, _, _, _]) rfl) rfl ?_
  rintro _ _ ⟨b4, rfl, rfl⟩
  refine l_nil ?_
  refine a_normal ?_
  refine w_seq ?_
  refine w_seq ?_
  refine w_region rfl ?_
  refine l_val (v_move rfl) rfl ?_
  refine l_nil ?_
  refine a_normal ?_
  refine w_cond rfl (fun hc => ?_) (fun hc => ?_)
  · skip
    subst hc
    refine w_seq ?_
    refine w_region rfl ?_
    refine l_val (v_loadA rfl (flat16 hk)) rfl ?_
    refine l_val (v_mkF (cs := flat ks ++ [u8 0]) rfl (fill_cons [] (List.replicate 16 (u8 0)) [u8 0] (flat ks) (by rw [flat16 hk]; rfl) rfl (by rw [flat16 hk]; rfl) rfl fill_nil)) rfl ?_
    refine l_eff0 (e_storeA rfl rfl (by rw [List.length_append, flat16 hk]; exact ⟨rfl, rfl⟩) (by intro v hv; rcases List.mem_append.1 hv with h | h; exact flat_one _ v h; simp at h; subst h; rfl)) ?_
    rintro _ _ ⟨rfl, rfl⟩
    refine l_nil ?_
    refine a_normal ?_
    refine w_ret ?_
    refine a_tret ?_
    exact a_retG H rfl (rvs_cons (rv_cellA rfl (by simp [flat16 hk])) rvs_nil) ⟨rfl, rfl⟩
  · skip
    subst hc
    refine w_skip ?_
    refine a_normal ?_
    refine w_seq ?_
    refine w_region rfl ?_
    refine l_val (v_loadA rfl (flat16 hk)) rfl ?_
    refine l_val (v_mkF (cs := flat ks ++ [u8 1]) rfl (fill_cons [] (List.replicate 16 (u8 0)) [u8 0] (flat ks) (by rw [flat16 hk]; rfl) rfl (by rw [flat16 hk]; rfl) rfl (fill_cons (flat ks) [u8 0] [] [u8 1] (by rw [flat16 hk]; rfl) (by simp) rfl rfl (by simp only [List.append_nil]; exact fill_nil)))) rfl ?_
    refine l_eff0 (e_storeA rfl rfl (by rw [List.length_append, flat16 hk]; exact ⟨rfl, rfl⟩) (by intro v hv; rcases List.mem_append.1 hv with h | h; exact flat_one _ v h; simp at h; subst h; rfl)) ?_
    rintro _ _ ⟨rfl, rfl⟩
    refine l_nil ?_
    refine a_normal ?_
    refine w_ret ?_
    exact a_retG H rfl (rvs_cons (rv_cellA rfl (by simp [flat16 hk])) rvs_nil) ⟨rfl, rfl⟩

theorem stream_spec (ks : List UInt8) (side : UInt8) (number : UInt64) (H : HP) :
    Fn Tryd.prog B 71 [.agg (flat ks ++ [u8 side]).toArray, u64 number] H (fun v H' => ∃ b2 b3, v = .func (.func 91) #[] #[ptr b2 0, ptr b3 0] ∧ H' = HP.pts b3 0 [u64 number] * (HP.pts b2 0 (flat ks ++ [u8 side]) * H)) := by
  refine fn_intro Tryd.func71 rfl rfl rfl ?_
  refine w_seq ?_
  refine w_region rfl ?_
  refine l_eff (e_box (l := flat ks ++ [u8 side]) rfl rfl) rfl ?_
  rintro _ _ ⟨b2, rfl, rfl⟩
  refine l_eff (e_box (l := [u64 number]) rfl rfl) rfl ?_
  rintro _ _ ⟨b3, rfl, rfl⟩
  refine l_val (v_assign rfl) rfl ?_
  refine l_nil ?_
  refine a_normal ?_
  refine w_seq ?_
  refine w_region rfl ?_
  refine l_val (v_func rfl rfl) rfl ?_
  refine l_val (v_assign rfl) rfl ?_
  refine l_nil ?_
  refine a_normal ?_
  refine w_ret ?_
  exact a_ret (ts := [4]) rfl rfl ⟨b2, b3, rfl, rfl⟩

def hdr (side kind : UInt8) (n : UInt64) : List UInt8 := [side, kind] ++ bigL n
def blk (ks : List UInt8) (side : UInt8) (n : UInt64) (k : Nat) : List UInt8 := bigL (sip ks (hdr side 1 n ++ [UInt8.ofNat k]))
def strB (ks : List UInt8) (side : UInt8) (n : UInt64) (i : Nat) : UInt8 := (blk ks side n (i / 8)).getD (i % 8) 0
def strL (ks : List UInt8) (side : UInt8) (n : UInt64) (m : Nat) : List UInt8 := (List.range m).map (strB ks side n)
theorem strB_at (ks : List UInt8) (side : UInt8) (n : UInt64) (k j : Nat) (h : j < 8) : strB ks side n (8 * k + j) = (blk ks side n k).getD j 0 := by
  rw [strB, show (8 * k + j) / 8 = k by omega, show (8 * k + j) % 8 = j by omega]
theorem strL_length (ks : List UInt8) (side : UInt8) (n : UInt64) (m : Nat) : (strL ks side n m).length = m := by simp [strL]
theorem strL_succ (ks : List UInt8) (side : UInt8) (n : UInt64) (m : Nat) : strL ks side n m ++ [strB ks side n m] = strL ks side n (m + 1) := by simp [strL, List.range_succ]
theorem bigL_length (n : UInt64) : (bigL n).length = 8 := rfl

set_option maxHeartbeats 1000000 in
theorem stream1_spec (ks : List UInt8) (hk : ks.length = 16) (side : UInt8) (number : UInt64) (N : Nat) (hN : 0 < N ∧ N < 100000000) (b2 b3 : Nat) (R : HP) :
    Iter Tryd.prog B 91 [ptr b2 0, ptr b3 0] u8 (fun _ => False) (fun pre => pre = strL ks side number pre.length ∧ pre.length ≤ N) (fun pre => pre.length < N)
      (HP.pts b2 0 (flat ks) * (HP.pts b2 (0 + 16) [u8 side] * (HP.pts b3 0 [u64 number] * R))) (HP.pts b2 0 (flat ks) * (HP.pts b2 (0 + 16) [u8 side] * (HP.pts b3 0 [u64 number] * R))) := by
  intro l J Jx hy
  refine fn_intro Tryd.func91 rfl rfl rfl ?_
  refine w_seq ?_
  refine w_region rfl ?_
  refine l_val (v_assign (v := .int .i64 (0 : Nat)) rfl) rfl ?_
  refine l_nil ?_
  refine a_normal ?_
  refine w_block ?_
  refine w_loop (fun k : Nat => [(0, .func (.yield l) #[] #[]), (1, ptr b2 0), (2, ptr b3 0), (4, iN k)]) (fun k => J (strL ks side number (8 * k)) * (HP.pts b2 0 (flat ks) * (HP.pts b2 (0 + 16) [u8 side] * (HP.pts b3 0 [u64 number] * R)))) (fun k => 8 * k < N) (fun k => N - 8 * k) 0 (by omega)
    (.cons rfl (.cons rfl (.cons rfl (.cons rfl .nil)))) rfl ?_
  intro k hkN
  refine w_seq ?_
  refine w_block ?_
  refine w_seq ?_
  refine w_region rfl ?_
  refine l_val (v_fieldAddr rfl) rfl ?_
  refine l_val (v_load rfl (by first | trivial | omega)) rfl ?_
  refine l_eff (e_mk1 rfl rfl (by simp [Value.oneCell']) rfl rfl rfl) rfl ?_
  rintro _ _ ⟨b12, rfl, rfl⟩
  refine l_heap (H' := arr b12 0 [side, 1] [] * (J (strL ks side number (8 * k)) * (HP.pts b2 0 (flat ks) * (HP.pts b2 (0 + 16) [u8 side] * (HP.pts b3 0 [u64 number] * R))))) rfl ?_
  refine l_val (v_load rfl (by first | trivial | omega)) rfl ?_
  refine l_eff (e_call rfl (big_spec number (some ⟨b12, 0, none⟩) b12 0 2 [side, 1] [] _ ⟨.inr rfl, Nat.le_refl _⟩ rfl (by simp))) rfl ?_
  rintro _ _ ⟨p14, b14, o14, c14, s14, rfl, hs14, hc14, rfl⟩
  refine l_val (v_move rfl) rfl ?_
  refine l_val (v_ito8 rfl) rfl ?_
  refine l_eff (e_mk1 rfl rfl (by simp [Value.oneCell']) rfl rfl rfl) rfl ?_
  rintro _ _ ⟨b17, rfl, rfl⟩
  refine l_heap (H' := arr b14 o14 ([side, 1] ++ bigL number) s14 * (HP.pts b17 0 (flat [UInt8.ofNat k]) * (J (strL ks side number (8 * k)) * (HP.pts b2 0 (flat ks) * (HP.pts b2 (0 + 16) [u8 side] * (HP.pts b3 0 [u64 number] * R)))))) (by rw [HP.left_comm]; rfl) ?_
  refine l_eff (e_append (ys := [UInt8.ofNat k]) (bb := b17) (oo := 0) rfl hs14 hc14 rfl ⟨.inr rfl, Nat.le_refl _⟩ inferInstance rfl (by simp [bigL]) (by omega)) rfl ?_
  rintro _ _ ⟨p18, b18, o18, c18, s18, rfl, hs18, hc18, rfl⟩
  refine l_val (v_assign rfl) rfl ?_
  refine l_nil ?_
  refine a_normal ?_
  refine w_seq ?_
  refine w_region rfl ?_
  refine l_val (v_fieldAddr rfl) rfl ?_
  refine l_val (v_loadR (xs := ks) (o := 0) rfl inferInstance (by rw [hk]; rfl)) rfl ?_
  refine l_val (v_move rfl) rfl ?_
  refine l_eff (e_call rfl (hash_spec ks ([side, 1] ++ bigL number ++ [UInt8.ofNat k]) p18 b18 o18 c18 _ hk hs18 inferInstance (by simp [bigL]))) rfl ?_
  rintro _ _ ⟨rfl, rfl⟩
  refine l_eff (e_call rfl (big_nil _ _)) rfl ?_
  rintro _ _ ⟨p23, b23, o23, c23, s23, rfl, hs23, hc23, rfl⟩
  refine l_val (v_lenS rfl) rfl ?_
  refine l_val (v_move (v := .int .i64 (0 : Nat)) rfl) rfl ?_
  refine l_nil ?_
  refine a_normal ?_
  refine w_block ?_
  refine w_ent (arr b23 o23 (bigL (sip ks ([side, 1] ++ bigL number ++ [UInt8.ofNat k]))) s23 * (J (strL ks side number (8 * k)) * (HP.pts b2 0 (flat ks) * (HP.pts b2 (0 + 16) [u8 side] * (HP.pts b3 0 [u64 number] * R))))) ?_
  refine w_loop (fun j : Nat => [(0, .func (.yield l) #[] #[]), (1, ptr b2 0), (2, ptr b3 0), (4, iN k), (23, .slice p23 8 c23), (24, iN 8), (25, iN j)])
    (fun j => J (strL ks side number (8 * k + j)) * (arr b23 o23 (blk ks side number k) s23 * (HP.pts b2 0 (flat ks) * (HP.pts b2 (0 + 16) [u8 side] * (HP.pts b3 0 [u64 number] * R))))) (fun j => j ≤ 8 ∧ 8 * k + j < N) (fun j => 8 - j) 0 (by omega)
    (.cons rfl (.cons rfl (.cons rfl (.cons rfl (.cons rfl (.cons rfl (.cons rfl .nil))))))) (HP.left_comm _ _ _) ?_
  intro j hj
  refine w_seq ?_
  refine w_region rfl ?_
  refine l_val (v_lss rfl rfl) rfl ?_
  refine l_nil ?_
  refine a_normal ?_
  refine w_seq ?_
  refine w_condD rfl (fun hc => ?_) (fun hc => ?_)
  · skip
    refine w_skip ?_
    refine a_normal ?_
    refine w_seq ?_
    refine w_block ?_
    refine w_seq ?_
    refine w_region rfl ?_
    refine l_val (v_indexAddrR rfl rfl (b := b23) (o := o23) hs23 (by show j < 8; omega)) rfl ?_
    refine l_val (v_load rfl (by show j < 8; omega)) rfl ?_
    refine l_val (v_assign rfl) rfl ?_
    refine l_nil ?_
    refine a_normal ?_
    refine w_seq ?_
    refine w_region rfl ?_
    refine l_val (v_move rfl) rfl ?_
    refine l_val (v_move rfl) rfl ?_
    have hsp : strL ks side number (8 * k + j) ++ [(blk ks side number k).getD j 0] = strL ks side number (8 * k + (j + 1)) := by rw [← strB_at ks side number k j hc, strL_succ]; rfl
    refine l_effI (e_yield rfl rfl (hy (strL ks side number (8 * k + j)) ((blk ks side number k).getD j 0) _ (by rw [hsp]; exact ⟨by rw [strL_length], by rw [strL_length]; omega⟩))) rfl ?_
    rintro _ _ ⟨g, rfl, hg, rfl⟩
    refine l_val (v_not rfl) rfl ?_
    refine l_nil ?_
    refine a_normal ?_
    refine w_cond rfl (fun hc => ?_) (fun hc => ?_)
    · skip
      obtain rfl : g = false := by simpa using hc
      refine w_ret ?_
      refine a_bret ?_
      refine a_tret ?_
      refine a_tret ?_
      refine a_bret ?_
      refine a_bret ?_
      refine a_tret ?_
      refine a_tret ?_
      refine a_bret ?_
      refine a_heap (H' := Jx (strL ks side number (8 * k + j) ++ [(blk ks side number k).getD j 0]) * (arr b23 o23 (blk ks side number k) s23 * (HP.pts b2 0 (flat ks) * (HP.pts b2 (0 + 16) [u8 side] * (HP.pts b3 0 [u64 number] * R))))) rfl ?_
      exact a_retD (ts := []) (Jx (strL ks side number (8 * k + j) ++ [(blk ks side number k).getD j 0]) * (HP.pts b2 0 (flat ks) * (HP.pts b2 (0 + 16) [u8 side] * (HP.pts b3 0 [u64 number] * R)))) rfl rfl (.inr ⟨_, by rw [hsp]; exact ⟨by rw [strL_length], by rw [strL_length]; omega⟩, rfl⟩)
    · skip
      obtain rfl : g = true := by simpa using hc
      refine w_skip ?_
      refine a_bnormal ?_
      refine a_normal ?_
      refine w_region rfl ?_
      refine l_val (v_addI (j := 1) rfl rfl (by omega)) rfl ?_
      refine l_val (v_move rfl) rfl ?_
      refine l_nil ?_
      exact a_loop (j + 1) ⟨by omega, by have := hg rfl; rw [hsp, strL_length] at this; omega⟩ (by omega) (.cons rfl (.cons rfl (.cons rfl (.cons rfl (.cons rfl (.cons rfl (.cons rfl .nil))))))) (by show J _ * _ = J _ * _; rw [hsp])
  · skip
    obtain rfl : j = 8 := by omega
    refine w_exit ?_
    refine a_texit ?_
    refine a_texit ?_
    refine a_bexit ?_
    refine a_bnormal ?_
    refine a_normal ?_
    refine w_region rfl ?_
    refine l_val (v_move rfl) rfl ?_
    refine l_val (v_addI (j := 1) rfl rfl (by omega)) rfl ?_
    refine l_val (v_assign rfl) rfl ?_
    refine l_nil ?_
    refine a_ent (J (strL ks side number (8 * k + 8)) * (HP.pts b2 0 (flat ks) * (HP.pts b2 (0 + 16) [u8 side] * (HP.pts b3 0 [u64 number] * R)))) ?_
    exact a_loop (k + 1) (by omega) (by omega) (.cons rfl (.cons rfl (.cons rfl (.cons rfl .nil)))) rfl

def xorL (xs ms : List UInt8) : List UInt8 := List.zipWith (· ^^^ ·) xs ms
def maskL (ks : List UInt8) (side : UInt8) (n : UInt64) (xs : List UInt8) : List UInt8 := xorL xs (strL ks side n xs.length)
theorem xorL_length (xs ms : List UInt8) (h : ms.length ≤ xs.length) : (xorL xs ms).length = ms.length := by simp [xorL]; omega
theorem xorL_snoc (xs ms : List UInt8) (m : UInt8) (h : ms.length < xs.length) : xorL xs (ms ++ [m]) = xorL xs ms ++ [xs.getD ms.length 0 ^^^ m] := by
  have e : xs = xs.take ms.length ++ (xs.getD ms.length 0 :: xs.drop (ms.length + 1)) := by
    rw [List.getD_eq_getElem?_getD, List.getElem?_eq_getElem h, Option.getD_some, List.getElem_cons_drop, List.take_append_drop]
  have e2 : xorL xs ms = xorL (xs.take ms.length) ms := by
    rw [xorL, xorL]
    conv => lhs; rw [← List.take_append_drop ms.length xs]
    rw [show ms = ms ++ [] by simp, List.zipWith_append (by simp; omega)]
    simp
  rw [e2]
  conv => lhs; rw [e]
  rw [xorL, xorL, List.zipWith_append (by simp; omega)]
  simp
theorem xorL_snoc2 (xs ms : List UInt8) (m : UInt8) (h : ms.length < xs.length) : xorL xs (ms ++ [m]) = xorL xs ms ++ [xs.getD (xorL xs ms).length 0 ^^^ m] := by
  rw [xorL_snoc xs ms m h, xorL_length xs ms (by omega)]
abbrev Buf := Option Addr × Nat × Nat × Nat × List Value
/-- an own slice in a cell -/
def Buf.ok (z : Buf) (k : Nat) : Prop := Sl z.1 z.2.1 z.2.2.1 k z.2.2.2.1 ∧ k * 1 + z.2.2.2.2.length = z.2.2.2.1 * 1
abbrev Buf.at (z : Buf) (b7 : Nat) (xs : List UInt8) (R : HP) : HP := HP.pts b7 0 [.slice z.1 xs.length z.2.2.2.1] * (arr z.2.1 z.2.2.1 xs z.2.2.2.2 * R)

set_option maxHeartbeats 1000000 in
theorem masked_spec (ks : List UInt8) (hk : ks.length = 16) (side : UInt8) (number : UInt64) (xs : List UInt8) (p : Option Addr) (b o c : Nat) (H : HP) (hs : Sl p b o xs.length c) (hr : RdA B H b o xs) (hx : xs.length < 100000000) :
    Fn Tryd.prog B 55 [.agg (flat ks ++ [u8 side]).toArray, u64 number, .slice p xs.length c] H (fun v H' => IsSl H (maskL ks side number xs) v H') := by
  refine fn_introM Tryd.func55 rfl rfl rfl ?_
  refine w_seq ?_
  refine w_region rfl ?_
  refine l_eff (e_box (l := flat ks ++ [u8 side]) rfl rfl) rfl ?_
  rintro _ _ ⟨b3, rfl, rfl⟩
  refine l_eff (e_box (l := [_]) rfl rfl) rfl ?_
  rintro _ _ ⟨b5, rfl, rfl⟩
  refine l_val (v_assign rfl) rfl ?_
  refine l_nil ?_
  refine a_normal ?_
  refine w_seq ?_
  refine w_region rfl ?_
  refine l_val (v_load rfl (by first | trivial | omega)) rfl ?_
  refine l_val (v_lenS rfl) rfl ?_
  refine l_eff (e_makeSlice0 (α := UInt8) rfl rfl ⟨by omega, by omega⟩) rfl ?_
  rintro _ _ ⟨p11, b11, o11, c11, s11, rfl, hs11, hc11, rfl⟩
  refine l_eff (e_alloc (l := [_]) rfl) rfl ?_
  rintro _ _ ⟨b7, rfl, rfl⟩
  refine l_eff0 (e_store rfl rfl rfl (by first | trivial | omega)) ?_
  rintro _ _ ⟨rfl, rfl⟩
  refine l_nil ?_
  refine a_normal ?_
  refine w_seq ?_
  refine w_seq ?_
  refine w_region rfl ?_
  refine l_val (v_load rfl (by first | trivial | omega)) rfl ?_
  refine l_val (v_lenS rfl) rfl ?_
  refine l_val (v_eql (j := 0) rfl rfl) rfl ?_
  refine l_nil ?_
  refine a_normal ?_
  refine w_condD rfl (fun hc => ?_) (fun hc => ?_)
  · skip
    obtain rfl : xs = [] := List.length_eq_zero_iff.1 hc
    refine w_seq ?_
    refine w_region rfl ?_
    refine l_val (v_load rfl (by first | trivial | omega)) rfl ?_
    refine l_val (v_assign rfl) rfl ?_
    refine l_nil ?_
    refine a_normal ?_
    refine w_ret ?_
    refine a_tret ?_
    refine a_ent (arr b11 o11 ([] : List UInt8) s11 * H) ?_
    exact a_retM (ts := [6]) [] _ rfl rfl ⟨p11, b11, o11, c11, s11, rfl, hs11, hc11, rfl⟩ rfl
  · skip
    refine w_skip ?_
    refine a_normal ?_
    refine w_seq ?_
    refine w_seq ?_
    refine w_region rfl ?_
    refine l_val (v_loadA rfl (by rw [List.length_append, flat16 hk]; rfl)) rfl ?_
    refine l_val (v_move rfl) rfl ?_
    refine l_eff (e_call rfl (stream_spec ks side number _)) rfl ?_
    rintro _ _ ⟨b2', b3', rfl, rfl⟩
    refine l_nil ?_
    refine a_normal ?_
    refine w_block ?_
    refine w_range (α := UInt8) u8 (fun _ => False) (fun pre => pre = strL ks side number pre.length ∧ pre.length ≤ xs.length) (fun pre => pre.length < xs.length)
      (fun pre => HP.ex fun z : Buf => HP.pr (z.ok (xorL xs pre).length) * z.at b7 (xorL xs pre) (HP.pts b5 0 [.slice p xs.length c] * H))
      (fun id pre => HP.ex fun z : Buf => HP.pr (id = 0 ∧ pre.length = xs.length ∧ z.ok (xorL xs pre).length) * z.at b7 (xorL xs pre) (HP.pts b5 0 [.slice p xs.length c] * H)) (HP.pts b2' 0 (flat ks) * (HP.pts b2' (0 + 16) [u8 side] * (HP.pts b3' 0 [u64 number] * HP.pts b3 0 (flat ks ++ [u8 side])))) (HP.pts b2' 0 (flat ks) * (HP.pts b2' (0 + 16) [u8 side] * (HP.pts b3' 0 [u64 number] * HP.pts b3 0 (flat ks ++ [u8 side]))))
      (fun x => [(8, u8 x), (7, ptr b7 0), (5, ptr b5 0)]) rfl rfl rfl ?_ (stream1_spec ks hk side number xs.length ⟨by omega, hx⟩ b2' b3' _) ?_ ?_ ?_ ?_
    · have hx0 : xorL xs [] = [] := by simp [xorL]
      refine sat_exP (p11, b11, o11, c11, s11) (by rw [hx0]; exact ⟨hs11, hc11⟩) ?_
      rw [HP.pts_append b2' 0 (flat ks) [u8 side], flat16 hk]
      rw [hx0]
      show _ = HP.pts b7 0 [.slice p11 ([] : List UInt8).length c11] * (arr b11 o11 [] s11 * (HP.pts b5 0 [.slice p xs.length c] * H)) * _
      ac_rfl
    · intro pre x l R
      refine w_region rfl ?_
      refine l_val (v_assign rfl) rfl ?_
      refine l_nil ?_
      exact a_asg (.cons rfl (.cons rfl (.cons rfl .nil))) rfl
    · intro pre x l R hsp
      refine w_exP ?_
      rintro ⟨q, bq, oq, cq, sq⟩ ⟨hq1, hq2⟩
      dsimp only [Buf.at] at hq1 hq2 ⊢
      obtain ⟨hp1, hp2⟩ := hsp
      rw [List.length_append, List.length_singleton] at hp2
      have hxl := xorL_length xs pre (by omega)
      have hrr : RdA B (HP.pts b7 0 [.slice q (xorL xs pre).length cq] * (arr bq oq (xorL xs pre) sq * (HP.pts b5 0 [.slice p xs.length c] * H)) * R) b o xs := inferInstance
      have ir := rd_of0 hrr
      have hsn := xorL_snoc2 xs pre x (by omega)
      refine w_block ?_
      refine w_seq ?_
      refine w_anyH 9 11 mixed rfl (by kernel_rfl) ?_
      refine s_take 0 rfl (by kernel_rfl) rfl (v_load rfl (by first | trivial | omega)) ?_
      refine s_take 1 rfl (by kernel_rfl) rfl (v_load rfl (by first | trivial | omega)) ?_
      refine s_take 2 rfl (by kernel_rfl) rfl (v_load rfl (by first | trivial | omega)) ?_
      refine s_take 3 rfl (by kernel_rfl) rfl (v_lenS rfl) ?_
      refine s_take 4 rfl (by kernel_rfl) rfl (v_indexAddrR rfl rfl (b := b) (o := o) hs (by omega)) ?_
      refine s_take 5 rfl (by kernel_rfl) rfl (v_load rfl (by omega)) ?_
      refine s_take 6 rfl (by kernel_rfl) rfl (v_move rfl) ?_
      refine s_take 7 rfl (by kernel_rfl) rfl (v_xorB rfl rfl) ?_
      refine s_eff 8 (by kernel_rfl) rfl rfl (e_mk1 rfl rfl (by simp [Value.oneCell']) rfl rfl rfl) ?_
      rintro _ _ ⟨b28, rfl, rfl⟩
      refine ⟨.inr inferInstance, ?_⟩
      refine s_heap (H' := arr bq oq (xorL xs pre) sq * (HP.pts b28 0 (flat [xs.getD (xorL xs pre).length 0 ^^^ x]) * (HP.pts b7 0 [.slice q (xorL xs pre).length cq] * (HP.pts b5 0 [.slice p xs.length c] * H) * R))) (by show HP.pts b28 0 _ * _ = _; ac_rfl) ?_
      refine s_eff 9 (by kernel_rfl) rfl rfl (e_append (ys := [xs.getD (xorL xs pre).length 0 ^^^ x]) (bb := b28) (oo := 0) rfl hq1 hq2 rfl ⟨.inr rfl, Nat.le_refl _⟩ inferInstance rfl (by simp; omega) (by omega)) ?_
      rintro _ _ ⟨q2, b2, o2, c2, s2, rfl, h2, h3, rfl⟩
      refine ⟨.inl (by decide), ?_⟩
      refine s_eff0 10 (by kernel_rfl) rfl (e_store rfl rfl rfl (by first | trivial | omega)) ?_
      rintro _ _ ⟨rfl, rfl⟩
      refine ⟨.inl (by decide), ?_⟩
      refine s_done (by kernel_rfl) ?_
      refine a_normal ?_
      refine w_seq ?_
      refine w_region rfl ?_
      refine l_val (v_load rfl (by first | trivial | omega)) rfl ?_
      refine l_val (v_lenS rfl) rfl ?_
      refine l_val (v_load rfl (by first | trivial | omega)) rfl ?_
      refine l_val (v_lenS rfl) rfl ?_
      refine l_val (v_eql rfl rfl) rfl ?_
      refine l_nil ?_
      refine a_normal ?_
      refine w_condD rfl (fun hc => ?_) (fun hc => ?_)
      · skip
        refine w_exit ?_
        refine a_bpass rfl ?_
        refine a_ent (arr b2 o2 (xorL xs pre ++ [xs.getD (xorL xs pre).length 0 ^^^ x]) s2 * (HP.pts b7 0 [.slice q2 (xorL xs pre ++ [xs.getD (xorL xs pre).length 0 ^^^ x]).length c2] * (HP.pts b5 0 [.slice p xs.length c] * H) * R)) ?_
        exact a_roundXE (sat_exP (q2, b2, o2, c2, s2) ⟨rfl, by rw [List.length_append, List.length_singleton] at hc ⊢; rw [xorL_length xs pre (by omega)] at hc; omega, by rw [hsn]; exact h2, by rw [hsn]; exact h3⟩ (by rw [hsn]; dsimp only [Buf.at]; ac_rfl))
      · skip
        refine w_skip ?_
        refine a_bnormal ?_
        refine a_ent (arr b2 o2 (xorL xs pre ++ [xs.getD (xorL xs pre).length 0 ^^^ x]) s2 * (HP.pts b7 0 [.slice q2 (xorL xs pre ++ [xs.getD (xorL xs pre).length 0 ^^^ x]).length c2] * (HP.pts b5 0 [.slice p xs.length c] * H) * R)) ?_
        exact a_roundE (by rw [List.length_append, List.length_singleton] at hc ⊢; rw [xorL_length xs pre (by omega)] at hc; omega) (sat_exP (q2, b2, o2, c2, s2) ⟨by rw [hsn]; exact h2, by rw [hsn]; exact h3⟩ (by rw [hsn]; dsimp only [Buf.at]; ac_rfl))
    · skip
      intro d xs hS
      exact hS.elim
    · skip
      intro d pre id hS
      refine a_exP ?_
      rintro ⟨q, bq, oq, cq, sq⟩ ⟨rfl, hlen, hq1, hq2⟩
      dsimp only [Buf.at] at hq1 hq2 ⊢
      have hpre : xorL xs pre = maskL ks side number xs := by rw [maskL, ← hlen, ← hS.1]
      rw [hpre] at hq1 hq2 ⊢
      refine a_bexit ?_
      refine a_normal ?_
      refine w_seq ?_
      refine w_region rfl ?_
      refine l_val (v_load rfl (by first | trivial | omega)) rfl ?_
      refine l_val (v_assign rfl) rfl ?_
      refine l_nil ?_
      refine a_normal ?_
      refine w_ret ?_
      refine a_ent (arr bq oq (maskL ks side number xs) sq * (H * HP.obj d (.deferred (some [])))) ?_
      refine a_heap (H' := HP.obj d (.deferred (some [])) * (arr bq oq (maskL ks side number xs) sq * H)) (by ac_rfl) ?_
      exact a_retM (ts := [6]) [d] _ rfl rfl ⟨q, bq, oq, cq, sq, rfl, hq1, hq2, rfl⟩ rfl

def tagL (ks : List UInt8) (side : UInt8) (n : UInt64) (xs : List UInt8) : List UInt8 := bigL (sip ks (hdr side 2 n ++ xs))
theorem tagL_length (ks : List UInt8) (side : UInt8) (n : UInt64) (xs : List UInt8) : (tagL ks side n xs).length = 8 := rfl

set_option maxHeartbeats 1000000 in
theorem tag_spec (ks : List UInt8) (hk : ks.length = 16) (side : UInt8) (number : UInt64) (xs : List UInt8) (p : Option Addr) (b o c : Nat) (H : HP) (hs : Sl p b o xs.length c) (hr : RdA B H b o xs) (hx : xs.length < 90000000) :
    Fn Tryd.prog B 56 [.agg (flat ks ++ [u8 side]).toArray, u64 number, .slice p xs.length c] H (fun v H' => v = .agg (flat (tagL ks side number xs)).toArray ∧ H' = H) := by
  refine fn_intro Tryd.func56 rfl rfl rfl ?_
  refine w_seq ?_
  refine w_region rfl ?_
  refine l_eff (e_box (l := flat ks ++ [u8 side]) rfl rfl) rfl ?_
  rintro _ _ ⟨b3, rfl, rfl⟩
  refine l_heap (H' := HP.pts b3 0 (flat ks) * (HP.pts b3 (0 + 16) [u8 side] * H)) (by rw [HP.pts_append, flat16 hk, HP.assoc]) ?_
  refine l_eff (e_alloc (l := [_, _, _, _, _, _, _, _]) rfl) rfl ?_
  rintro _ _ ⟨b6, rfl, rfl⟩
  refine l_nil ?_
  refine a_normal ?_
  refine w_seq ?_
  refine w_region rfl ?_
  refine l_eff (e_alloc (l := [_, _, _, _, _, _, _, _]) rfl) rfl ?_
  rintro _ _ ⟨b7, rfl, rfl⟩
  refine l_nil ?_
  refine a_normal ?_
  refine w_seq ?_
  refine w_heap (H' := HP.pts b7 0 [u8 0, u8 0, u8 0, u8 0, u8 0, u8 0, u8 0, u8 0] * (HP.pts b6 0 [u8 0, u8 0, u8 0, u8 0, u8 0, u8 0, u8 0, u8 0] * (HP.pts b3 0 (flat ks) * (HP.pts b3 (0 + 16) [u8 side] * H)))) rfl ?_
  have hrr : RdA B (HP.pts b7 0 [u8 0, u8 0, u8 0, u8 0, u8 0, u8 0, u8 0, u8 0] * (HP.pts b6 0 [u8 0, u8 0, u8 0, u8 0, u8 0, u8 0, u8 0, u8 0] * (HP.pts b3 0 (flat ks) * (HP.pts b3 (0 + 16) [u8 side] * H)))) b o xs := inferInstance
  refine w_anyH 12 13 mixed rfl (by kernel_rfl) ?_
  refine s_take 0 rfl (by kernel_rfl) rfl (v_sliceAk (k := 8) rfl rfl) ?_
  refine s_take 1 rfl (by kernel_rfl) rfl (v_fieldAddr rfl) ?_
  refine s_take 2 rfl (by kernel_rfl) rfl (v_loadR (xs := ks) (o := 0) rfl inferInstance (by rw [hk]; rfl)) ?_
  refine s_take 3 rfl (by kernel_rfl) rfl (v_fieldAddr rfl) ?_
  refine s_take 4 rfl (by kernel_rfl) rfl (v_load rfl (by first | trivial | omega)) ?_
  refine s_take 6 rfl (by kernel_rfl) rfl (v_move rfl) ?_
  refine s_take 8 rfl (by kernel_rfl) rfl (v_move rfl) ?_
  refine s_eff 5 (by kernel_rfl) rfl rfl (e_mk1 rfl rfl (by simp [Value.oneCell']) rfl rfl rfl) ?_
  rintro _ _ ⟨b13, rfl, rfl⟩
  refine ⟨.inr inferInstance, ?_⟩
  refine s_heap (H' := arr b13 0 [side, 2] [] * (HP.pts b7 0 [u8 0, u8 0, u8 0, u8 0, u8 0, u8 0, u8 0, u8 0] * (HP.pts b6 0 [u8 0, u8 0, u8 0, u8 0, u8 0, u8 0, u8 0, u8 0] * (HP.pts b3 0 (flat ks) * (HP.pts b3 (0 + 16) [u8 side] * H))))) rfl ?_
  refine s_eff 7 (by kernel_rfl) rfl rfl (e_call rfl (big_spec number (some ⟨b13, 0, none⟩) b13 0 2 [side, 2] [] _ ⟨.inr rfl, Nat.le_refl _⟩ rfl (by simp))) ?_
  rintro _ _ ⟨p15, b15, o15, c15, s15, rfl, hs15, hc15, rfl⟩
  refine ⟨.inr inferInstance, ?_⟩
  refine s_eff 9 (by kernel_rfl) rfl rfl (e_append (ys := xs) (bb := b) (oo := o) rfl hs15 hc15 rfl hs inferInstance rfl (by simp [bigL]; omega) (by omega)) ?_
  rintro _ _ ⟨p17, b17, o17, c17, s17, rfl, hs17, hc17, rfl⟩
  refine ⟨.inr inferInstance, ?_⟩
  refine s_eff 10 (by kernel_rfl) rfl rfl (e_call rfl (hash_spec ks ([side, 2] ++ bigL number ++ xs) p17 b17 o17 c17 _ hk hs17 inferInstance (by simp [bigL]; omega))) ?_
  rintro _ _ ⟨rfl, rfl⟩
  refine ⟨.inr inferInstance, ?_⟩
  refine s_eff 11 (by kernel_rfl) rfl rfl (e_call rfl (big_nil _ _)) ?_
  rintro _ _ ⟨p19, b19, o19, c19, s19, rfl, hs19, hc19, rfl⟩
  refine ⟨.inr inferInstance, ?_⟩
  refine s_heap (H' := HP.pts b7 0 [u8 0, u8 0, u8 0, u8 0, u8 0, u8 0, u8 0, u8 0] * (arr b19 o19 (tagL ks side number xs) s19 * (arr b17 o17 ([side, 2] ++ bigL number ++ xs) s17 * (HP.pts b6 0 [u8 0, u8 0, u8 0, u8 0, u8 0, u8 0, u8 0, u8 0] * (HP.pts b3 0 (flat ks) * (HP.pts b3 (0 + 16) [u8 side] * H)))))) (by show arr b19 o19 (tagL ks side number xs) s19 * _ = _; ac_rfl) ?_
  refine s_eff 12 (by kernel_rfl) rfl rfl (e_copy (b := b7) (o := 0) (bb := b19) (oo := o19) (ys := tagL ks side number xs) rfl ⟨.inr rfl, Nat.le_refl _⟩ rfl hs19 inferInstance (by decide)) ?_
  rintro _ _ ⟨rfl, rfl⟩
  refine ⟨.inl (by decide), ?_⟩
  refine s_done (by kernel_rfl) ?_
  refine a_normal ?_
  refine w_seq ?_
  refine w_region rfl ?_
  refine l_val (v_loadA (l := flat (tagL ks side number xs)) rfl rfl) rfl ?_
  refine l_eff0 (e_storeA rfl rfl (by constructor <;> rfl) (flat_one _)) ?_
  rintro _ _ ⟨rfl, rfl⟩
  refine l_nil ?_
  refine a_normal ?_
  refine w_ret ?_
  exact a_retG H rfl (rvs_cons (rv_cellA rfl rfl) rvs_nil) ⟨rfl, rfl⟩

theorem maskL_length (ks : List UInt8) (side : UInt8) (n : UInt64) (xs : List UInt8) : (maskL ks side n xs).length = xs.length := by
  rw [maskL, xorL_length _ _ (by rw [strL_length]; exact Nat.le_refl _), strL_length]
def sealL (ks : List UInt8) (side : UInt8) (n : UInt64) (xs : List UInt8) : List UInt8 := bigL n ++ maskL ks side n xs ++ tagL ks side n (maskL ks side n xs)

theorem seal_spec (ks : List UInt8) (hk : ks.length = 16) (side : UInt8) (number : UInt64) (xs : List UInt8) (p : Option Addr) (b o c : Nat) (H : HP) (hs : Sl p b o xs.length c) (hr : RdA B H b o xs) (hx : xs.length < 90000000) :
    Fn Tryd.prog B 43 [.agg (flat ks ++ [u8 side]).toArray, u64 number, .slice p xs.length c] H (fun v H' => IsSl H (sealL ks side number xs) v H') := by
  refine fn_intro Tryd.func43 rfl rfl rfl ?_
  have hml := maskL_length ks side number xs
  refine w_seq ?_
  refine w_region rfl ?_
  refine l_eff (e_box (l := flat ks ++ [u8 side]) rfl rfl) rfl ?_
  rintro _ _ ⟨b3, rfl, rfl⟩
  refine l_val (v_assign rfl) rfl ?_
  refine l_nil ?_
  refine a_normal ?_
  refine w_seq ?_
  refine w_region rfl ?_
  refine l_val (v_loadA rfl (by rw [List.length_append, flat16 hk]; rfl)) rfl ?_
  refine l_val (v_move rfl) rfl ?_
  refine l_val (v_move rfl) rfl ?_
  refine l_eff (e_call rfl (masked_spec ks hk side number xs p b o c _ hs inferInstance (by omega))) rfl ?_
  rintro _ _ ⟨p12, b12, o12, c12, s12, rfl, hs12, hc12, rfl⟩
  refine l_val (v_assign rfl) rfl ?_
  refine l_nil ?_
  refine a_normal ?_
  refine w_seq ?_
  refine w_region rfl ?_
  refine l_val (v_loadA rfl (by rw [List.length_append, flat16 hk]; rfl)) rfl ?_
  refine l_val (v_move rfl) rfl ?_
  refine l_val (v_move rfl) rfl ?_
  refine l_eff (e_call rfl (tag_spec ks hk side number (maskL ks side number xs) p12 b12 o12 c12 _ hs12 inferInstance (by omega))) rfl ?_
  rintro _ _ ⟨rfl, rfl⟩
  refine l_eff (e_alloc (l := [_, _, _, _, _, _, _, _]) rfl) rfl ?_
  rintro _ _ ⟨b8, rfl, rfl⟩
  refine l_eff0 (e_storeA rfl rfl (by constructor <;> rfl) (flat_one _)) ?_
  rintro _ _ ⟨rfl, rfl⟩
  refine l_nil ?_
  refine a_normal ?_
  refine w_seq ?_
  refine w_anyH 5 7 mixed rfl (by kernel_rfl) ?_
  refine s_take 0 rfl (by kernel_rfl) rfl (v_move rfl) ?_
  refine s_take 2 rfl (by kernel_rfl) rfl (v_move rfl) ?_
  refine s_take 4 rfl (by kernel_rfl) rfl (v_sliceAk (k := 8) rfl rfl) ?_
  refine s_eff 1 (by kernel_rfl) rfl rfl (e_call rfl (big_nil _ _)) ?_
  rintro _ _ ⟨p18, b18, o18, c18, s18, rfl, hs18, hc18, rfl⟩
  refine ⟨.inr inferInstance, ?_⟩
  refine s_eff 3 (by kernel_rfl) rfl rfl (e_append (ys := maskL ks side number xs) (bb := b12) (oo := o12) rfl hs18 hc18 rfl hs12 inferInstance rfl (by rw [bigL_length]; omega) (by omega)) ?_
  rintro _ _ ⟨p20, b20, o20, c20, s20, rfl, hs20, hc20, rfl⟩
  refine ⟨.inr inferInstance, ?_⟩
  refine s_eff 5 (by kernel_rfl) rfl rfl (e_append (ys := tagL ks side number (maskL ks side number xs)) (bb := b8) (oo := 0) rfl hs20 hc20 rfl ⟨.inr rfl, Nat.le_refl _⟩ inferInstance rfl (by rw [List.length_append, bigL_length, tagL_length]; omega) (by omega)) ?_
  rintro _ _ ⟨p22, b22, o22, c22, s22, rfl, hs22, hc22, rfl⟩
  refine ⟨.inl (by decide), ?_⟩
  refine s_val 6 (by kernel_rfl) rfl rfl (v_assign rfl) (.inl (by decide)) ?_
  refine s_done (by kernel_rfl) ?_
  refine a_normal ?_
  refine w_ret ?_
  exact a_retD (ts := [6]) (arr b22 o22 (bigL number ++ maskL ks side number xs ++ tagL ks side number (maskL ks side number xs)) s22 * H) rfl rfl ⟨p22, b22, o22, c22, s22, rfl, hs22, hc22, rfl⟩

def be (xs : List UInt8) : Nat → UInt64
  | 0 => 0
  | i + 1 => (be xs i <<< 8) ||| (xs.getD i 0).toUInt64
def bodyL (xs : List UInt8) : List UInt8 := (xs.take (xs.length - 8)).drop 8
def openL (ks : List UInt8) (side : UInt8) (xs : List UInt8) : Option (UInt64 × List UInt8) :=
  if xs.length < 16 ∨ 300 < xs.length then none
  else if 4611686018427387903 < (be xs 8).toNat ∨ tagL ks side (be xs 8) (bodyL xs) ≠ xs.drop (xs.length - 8) then none
  else some (be xs 8, maskL ks side (be xs 8) (bodyL xs))

set_option maxHeartbeats 1000000 in
theorem open_spec (ks : List UInt8) (hk : ks.length = 16) (side : UInt8) (xs : List UInt8) (p : Option Addr) (b o c : Nat) (H : HP) (hs : Sl p b o xs.length c) (hr : RdA B H b o xs) (hx : xs.length < 90000000) :
    Fn Tryd.prog B 44 [.agg (flat ks ++ [u8 side]).toArray, .slice p xs.length c] H (fun v H' => match openL ks side xs with
      | none => v = .tuple #[u64 0, .slice none 0 0, .bool false] ∧ H' = H
      | some (n, ys) => ∃ sv, v = .tuple #[u64 n, sv, .bool true] ∧ IsSl H ys sv H') := by
  refine fn_intro Tryd.func44 rfl rfl rfl ?_
  refine w_seq ?_
  refine w_region rfl ?_
  refine l_eff (e_box (l := flat ks ++ [u8 side]) rfl rfl) rfl ?_
  rintro _ _ ⟨b2, rfl, rfl⟩
  refine l_val (v_assign (v := .int .u64 (0 : Nat)) rfl) rfl ?_
  refine l_val (v_assign rfl) rfl ?_
  refine l_val (v_assign rfl) rfl ?_
  refine l_nil ?_
  refine a_normal ?_
  refine w_seq ?_
  refine w_region rfl ?_
  refine l_val (v_move rfl) rfl ?_
  refine l_val (v_lenS rfl) rfl ?_
  refine l_val (v_subZ (i := (xs.length : Int)) (j := 8) rfl rfl (by omega)) rfl ?_
  refine l_val (v_assign rfl) rfl ?_
  refine l_nil ?_
  refine a_normal ?_
  refine w_seq ?_
  refine w_seq ?_
  refine w_region rfl ?_
  refine l_val (v_move rfl) rfl ?_
  refine l_val (v_lssZ (j := 8) rfl rfl) rfl ?_
  refine l_val (v_move rfl) rfl ?_
  refine l_case 15 rfl (fun hg1 => ?_) (fun hg1 => ?_)
  · skip
    refine l_gN rfl rfl rfl (decide_eq_true hg1) ?_
    refine l_gN rfl rfl rfl (decide_eq_true hg1) ?_
    refine l_gN rfl rfl rfl (decide_eq_true hg1) ?_
    refine l_val (v_pickY (decide_eq_true hg1) rfl rfl) rfl ?_
    refine l_nil ?_
    refine a_normal ?_
    refine w_condY rfl rfl ?_
    refine w_seq ?_
    refine w_region rfl ?_
    refine l_val (v_assign (v := .int .u64 (0 : Nat)) rfl) rfl ?_
    refine l_val (v_assign rfl) rfl ?_
    refine l_val (v_assign rfl) rfl ?_
    refine l_nil ?_
    refine a_normal ?_
    refine w_ret ?_
    refine a_tret ?_
    exact a_retD (ts := [4, 5, 6]) H rfl rfl (by rw [show openL ks side xs = none from if_pos (by omega)]; exact ⟨rfl, rfl⟩)
  · skip
    refine l_gY rfl rfl rfl (decide_eq_false hg1) ?_
    refine l_val (v_move rfl) rfl ?_
    refine l_gY rfl rfl rfl (decide_eq_false hg1) ?_
    refine l_val (v_lenS rfl) rfl ?_
    refine l_gY rfl rfl rfl (decide_eq_false hg1) ?_
    refine l_val (v_gtr (j := 300) rfl rfl) rfl ?_
    refine l_val (v_pickN (decide_eq_false hg1) rfl rfl) rfl ?_
    refine l_nil ?_
    refine a_normal ?_
    refine w_condD rfl (fun hc => ?_) (fun hc => ?_)
    · skip
      refine w_seq ?_
      refine w_region rfl ?_
      refine l_val (v_assign (v := .int .u64 (0 : Nat)) rfl) rfl ?_
      refine l_val (v_assign rfl) rfl ?_
      refine l_val (v_assign rfl) rfl ?_
      refine l_nil ?_
      refine a_normal ?_
      refine w_ret ?_
      refine a_tret ?_
      exact a_retD (ts := [4, 5, 6]) H rfl rfl (by rw [show openL ks side xs = none from if_pos (by omega)]; exact ⟨rfl, rfl⟩)
    · skip
      have e8 : ((xs.length : Int) - 8) = ((xs.length - 8 : Nat) : Int) := by omega
      rw [e8]
      have h16 : 16 ≤ xs.length := by omega
      have h300 : xs.length ≤ 300 := by omega
      have hbl : (bodyL xs).length = xs.length - 16 := by simp [bodyL]; omega
      have hop : ¬ (xs.length < 16 ∨ 300 < xs.length) := by omega
      have ir := rd_of0 (B := B) hr
      have hsB : Sl (sp p c 8 1) b (o + 8 * 1) (bodyL xs).length (c - 8) := by
        have := sp_sl (sz := 1) (l := 8) (h := xs.length - 8) hs (by omega) (by have := hs.2; omega)
        rw [hbl, show xs.length - 16 = xs.length - 8 - 8 by omega]; exact this
      have hrB : RdA B H b (o + 8 * 1) (bodyL xs) := hr.sub 8 (xs.length - 8) (by omega)
      have hsT : Sl (sp p c (xs.length - 8) 1) b (o + (xs.length - 8) * 1) (xs.drop (xs.length - 8)).length (c - (xs.length - 8)) := by
        have := sp_sl (sz := 1) (l := xs.length - 8) (h := xs.length) hs (by omega) hs.2
        rw [List.length_drop]; exact this
      have hrT : RdA B H b (o + (xs.length - 8) * 1) (xs.drop (xs.length - 8)) := hr.dropL (xs.length - 8)
      have hT8 : (xs.drop (xs.length - 8)).length = 8 := by rw [List.length_drop]; omega
      refine w_skip ?_
      refine a_normal ?_
      refine w_seq ?_
      refine w_seq ?_
      refine w_region rfl ?_
      refine l_val (v_move rfl) rfl ?_
      refine l_val (v_sliceSh (h := 8) rfl rfl (by have := hs.2; omega)) rfl ?_
      refine l_val (v_lenS rfl) rfl ?_
      refine l_val (v_move (v := .int .i64 (0 : Nat)) rfl) rfl ?_
      refine l_nil ?_
      refine a_normal ?_
      refine w_block ?_
      refine w_loop (fun j : Nat => [(1, .slice p xs.length c), (2, ptr b2 0), (7, iN (xs.length - 8)), (21, .slice p 8 c), (22, iN 8), (23, iN j), (4, u64 (be xs j))]) (fun _ => HP.pts b2 0 (flat ks ++ [u8 side]) * H) (fun j => j ≤ 8) (fun j => 8 - j) 0 (Nat.zero_le _)
        (.cons rfl (.cons rfl (.cons rfl (.cons rfl (.cons rfl (.cons rfl (.cons rfl .nil))))))) rfl ?_
      intro j hj
      refine w_seq ?_
      refine w_region rfl ?_
      refine l_val (v_lss rfl rfl) rfl ?_
      refine l_nil ?_
      refine a_normal ?_
      refine w_seq ?_
      refine w_condD rfl (fun hc => ?_) (fun hc => ?_)
      · skip
        refine w_skip ?_
        refine a_normal ?_
        refine w_seq ?_
        refine w_block ?_
        refine w_seq ?_
        refine w_region rfl ?_
        refine l_val (v_indexAddrR rfl rfl (b := b) (o := o) ⟨hs.1, by have := hs.2; omega⟩ (by omega)) rfl ?_
        refine l_val (v_load rfl (by omega)) rfl ?_
        refine l_val (v_assign rfl) rfl ?_
        refine l_nil ?_
        refine a_normal ?_
        refine w_region rfl ?_
        refine l_val (v_move rfl) rfl ?_
        refine l_val (v_shl64 (j := 8) rfl rfl (by omega)) rfl ?_
        refine l_val (v_move rfl) rfl ?_
        refine l_val (v_to64 rfl) rfl ?_
        refine l_val (v_or64 rfl rfl) rfl ?_
        refine l_val (v_assign rfl) rfl ?_
        refine l_nil ?_
        refine a_bnormal ?_
        refine a_normal ?_
        refine w_region rfl ?_
        refine l_val (v_addI (j := 1) rfl rfl (by omega)) rfl ?_
        refine l_val (v_move rfl) rfl ?_
        refine l_nil ?_
        exact a_loop (j + 1) (by omega) (by omega) (.cons rfl (.cons rfl (.cons rfl (.cons rfl (.cons rfl (.cons rfl (.cons rfl .nil))))))) rfl
      · skip
        obtain rfl : j = 8 := by omega
        refine w_exit ?_
        refine a_texit ?_
        refine a_texit ?_
        refine a_bexit ?_
        refine a_normal ?_
        refine w_seq ?_
        refine w_seq ?_
        refine w_anyH 16 16 mixed rfl (by kernel_rfl) ?_
        refine s_take 0 rfl (by kernel_rfl) rfl (v_move rfl) ?_
        refine s_take 1 rfl (by kernel_rfl) rfl (v_gtr (i := (be xs 8).toNat) (j := 4611686018427387903) rfl rfl) ?_
        refine s_take 2 rfl (by kernel_rfl) rfl (v_move rfl) ?_
        refine s_case 35 rfl (fun hg2 => ?_) (fun hg2 => ?_)
        · skip
          refine s_gN 3 rfl (by kernel_rfl) rfl rfl rfl (decide_eq_true hg2) ?_
          refine s_gN 4 rfl (by kernel_rfl) rfl rfl rfl (decide_eq_true hg2) ?_
          refine s_gN 5 rfl (by kernel_rfl) rfl rfl rfl (decide_eq_true hg2) ?_
          refine s_gN 6 rfl (by kernel_rfl) rfl rfl rfl (decide_eq_true hg2) ?_
          refine s_gN 7 rfl (by kernel_rfl) rfl rfl rfl (decide_eq_true hg2) ?_
          refine s_gN 9 rfl (by kernel_rfl) rfl rfl rfl (decide_eq_true hg2) ?_
          refine s_gN 10 rfl (by kernel_rfl) rfl rfl rfl (decide_eq_true hg2) ?_
          refine s_gN 11 rfl (by kernel_rfl) rfl rfl rfl (decide_eq_true hg2) ?_
          refine s_gN 12 rfl (by kernel_rfl) rfl rfl rfl (decide_eq_true hg2) ?_
          refine s_gN 13 rfl (by kernel_rfl) rfl rfl rfl (decide_eq_true hg2) ?_
          refine s_gN 8 rfl (by kernel_rfl) rfl rfl rfl (decide_eq_true hg2) ?_
          refine s_gN 14 rfl (by kernel_rfl) rfl rfl rfl (decide_eq_true hg2) ?_
          refine s_take 15 rfl (by kernel_rfl) rfl (v_pickY (decide_eq_true hg2) rfl rfl) ?_
          refine s_done (by kernel_rfl) ?_
          refine a_normal ?_
          refine w_condY rfl rfl ?_
          refine w_seq ?_
          refine w_region rfl ?_
          refine l_val (v_assign (v := .int .u64 (0 : Nat)) rfl) rfl ?_
          refine l_val (v_assign rfl) rfl ?_
          refine l_val (v_assign rfl) rfl ?_
          refine l_nil ?_
          refine a_normal ?_
          refine w_ret ?_
          refine a_tret ?_
          exact a_retD (ts := [4, 5, 6]) H rfl rfl (by rw [show openL ks side xs = none from by rw [openL, if_neg hop, if_pos (.inl hg2)]]; exact ⟨rfl, rfl⟩)
        · skip
          refine s_gY 3 rfl (by kernel_rfl) rfl rfl rfl (decide_eq_false hg2) (v_loadA rfl (by rw [List.length_append, flat16 hk]; rfl)) ?_
          refine s_gY 4 rfl (by kernel_rfl) rfl rfl rfl (decide_eq_false hg2) (v_move rfl) ?_
          refine s_gY 5 rfl (by kernel_rfl) rfl rfl rfl (decide_eq_false hg2) (v_move rfl) ?_
          refine s_gY 6 rfl (by kernel_rfl) rfl rfl rfl (decide_eq_false hg2) (v_move rfl) ?_
          refine s_gY 7 rfl (by kernel_rfl) rfl rfl rfl (decide_eq_false hg2) (v_sliceSlhk (l := 8) (h := xs.length - 8) (k' := (bodyL xs).length) rfl rfl rfl (by have := hs.2; omega) (by omega)) ?_
          refine s_gY 9 rfl (by kernel_rfl) rfl rfl rfl (decide_eq_false hg2) (v_move rfl) ?_
          refine s_gY 10 rfl (by kernel_rfl) rfl rfl rfl (decide_eq_false hg2) (v_move rfl) ?_
          refine s_gY 11 rfl (by kernel_rfl) rfl rfl rfl (decide_eq_false hg2) (v_sliceSlk (l := xs.length - 8) (k' := (xs.drop (xs.length - 8)).length) rfl rfl (by omega) (by rw [List.length_drop])) ?_
          refine s_gY 12 rfl (by kernel_rfl) rfl rfl rfl (decide_eq_false hg2) (v_s2a rfl hsT (by omega) (by omega)) ?_
          refine s_gY 13 rfl (by kernel_rfl) rfl rfl rfl (decide_eq_false hg2) (v_loadR (xs := xs.drop (xs.length - 8)) (o := o + (xs.length - 8) * 1) rfl inferInstance (by rw [hT8]; rfl)) ?_
          refine s_effG 8 (by kernel_rfl) rfl rfl rfl rfl (decide_eq_false hg2) (e_call rfl (tag_spec ks hk side (be xs 8) (bodyL xs) (sp p c 8 1) b (o + 8 * 1) (c - 8) _ hsB inferInstance (by omega))) ?_
          rintro _ _ ⟨rfl, rfl⟩
          refine ⟨.inr inferInstance, ?_⟩
          refine s_gY 14 rfl (by kernel_rfl) rfl rfl rfl (decide_eq_false hg2) (v_neA (xs := tagL ks side (be xs 8) (bodyL xs)) (ys := xs.drop (xs.length - 8)) (by kernel_rfl) rfl rfl rfl hT8) ?_
          refine s_take 15 rfl (by kernel_rfl) rfl (v_pickN (decide_eq_false hg2) rfl rfl) ?_
          refine s_done (by kernel_rfl) ?_
          refine a_normal ?_
          refine w_condD rfl (fun hc => ?_) (fun hc => ?_)
          · skip
            refine w_seq ?_
            refine w_region rfl ?_
            refine l_val (v_assign (v := .int .u64 (0 : Nat)) rfl) rfl ?_
            refine l_val (v_assign rfl) rfl ?_
            refine l_val (v_assign rfl) rfl ?_
            refine l_nil ?_
            refine a_normal ?_
            refine w_ret ?_
            refine a_tret ?_
            exact a_retD (ts := [4, 5, 6]) H rfl rfl (by rw [show openL ks side xs = none from by rw [openL, if_neg hop, if_pos (.inr hc)]]; exact ⟨rfl, rfl⟩)
          · skip
            refine w_skip ?_
            refine a_normal ?_
            refine w_seq ?_
            refine w_anyH 10 10 mixed rfl (by kernel_rfl) ?_
            refine s_take 0 rfl (by kernel_rfl) rfl (v_move rfl) ?_
            refine s_take 1 rfl (by kernel_rfl) rfl (v_loadA rfl (by rw [List.length_append, flat16 hk]; rfl)) ?_
            refine s_take 2 rfl (by kernel_rfl) rfl (v_move rfl) ?_
            refine s_take 3 rfl (by kernel_rfl) rfl (v_move rfl) ?_
            refine s_take 4 rfl (by kernel_rfl) rfl (v_move rfl) ?_
            refine s_take 5 rfl (by kernel_rfl) rfl (v_sliceSlhk (l := 8) (h := xs.length - 8) (k' := (bodyL xs).length) rfl rfl rfl (by have := hs.2; omega) (by omega)) ?_
            refine s_eff 6 (by kernel_rfl) rfl rfl (e_call rfl (masked_spec ks hk side (be xs 8) (bodyL xs) (sp p c 8 1) b (o + 8 * 1) (c - 8) _ hsB inferInstance (by omega))) ?_
            rintro _ _ ⟨p55, b55, o55, c55, s55, rfl, hs55, hc55, rfl⟩
            refine ⟨.inr inferInstance, ?_⟩
            refine s_take 7 rfl (by kernel_rfl) rfl (v_assign rfl) ?_
            refine s_take 8 rfl (by kernel_rfl) rfl (v_assign rfl) ?_
            refine s_take 9 rfl (by kernel_rfl) rfl (v_assign rfl) ?_
            refine s_done (by kernel_rfl) ?_
            refine a_normal ?_
            refine w_ret ?_
            exact a_retD (ts := [4, 5, 6]) (arr b55 o55 (maskL ks side (be xs 8) (bodyL xs)) s55 * H) rfl rfl (by rw [show openL ks side xs = some (be xs 8, maskL ks side (be xs 8) (bodyL xs)) by rw [openL, if_neg hop, if_neg (fun h => h.elim hg2 hc)]]; exact ⟨_, rfl, p55, b55, o55, c55, s55, rfl, hs55, hc55, rfl⟩)
end Go.Proofs.YtgfdlpcdjklcoaaDoor
