/- Contracts of package sealstreamref: frames written; no condition. -/
import Derived.Test.YtgfdlpcdjklcoaaDoorWire3
namespace Go.Proofs.YtgfdlpcdjklcoaaDoor
open Go Go.RowKit
set_option linter.unusedVariables false
set_option maxRecDepth 20000
variable {B : World}
/-- the first k bytes of a number in so many -/
def topV (n size head : Nat) : Nat → List UInt8
  | 0 => []
  | k + 1 => topV n size head k ++ [UInt8.ofNat (n / 256 ^ (size - 1 - k) % 256 + (if k = 0 then head * 64 else 0))]
def szV (n : Nat) : Nat := if n < 64 then 1 else if n < 16384 then 2 else if n < 1073741824 then 4 else 8
def hdV (n : Nat) : Nat := if n < 64 then 0 else if n < 16384 then 1 else if n < 1073741824 then 2 else 3
theorem ofNat_mod (a : Nat) : UInt8.ofNat (a % 256) = UInt8.ofNat a := by
  apply UInt8.toNat_inj.1; simp [UInt8.toNat_ofNat']
theorem topV_vint (n : Nat) (h : n ≤ 4611686018427387903) : topV n (szV n) (hdV n) (szV n) = vint n := by
  unfold szV hdV vint
  split
  · simp only [topV, if_true, List.nil_append, Nat.sub_self, Nat.pow_zero, Nat.div_one, Nat.zero_mul, Nat.add_zero, ofNat_mod]
  split
  · simp only [topV, if_true, if_false, List.nil_append, List.cons_append, Nat.reduceSub, Nat.pow_zero, Nat.div_one, Nat.reduceMul, Nat.add_zero, ofNat_mod, Nat.reduceEqDiff, Nat.reducePow, Nat.one_ne_zero]
    rw [show n / 256 % 256 + 64 = n / 256 + 64 by omega]
  split
  · simp only [topV, if_true, if_false, List.nil_append, List.cons_append, Nat.reduceSub, Nat.pow_zero, Nat.div_one, Nat.reduceMul, Nat.add_zero, ofNat_mod, Nat.reduceEqDiff, Nat.reducePow, Nat.one_ne_zero]
    rw [show n / 16777216 % 256 + 128 = n / 16777216 + 128 by omega]
  · simp only [topV, if_true, if_false, List.nil_append, List.cons_append, Nat.reduceSub, Nat.pow_zero, Nat.div_one, Nat.reduceMul, Nat.add_zero, ofNat_mod, Nat.reduceEqDiff, Nat.reducePow, Nat.one_ne_zero]
    rw [show n / 72057594037927936 % 256 + 192 = n / 72057594037927936 + 192 by omega]
theorem topV_length (n size head : Nat) : ∀ k, (topV n size head k).length = k
  | 0 => rfl
  | k + 1 => by simp [topV, topV_length n size head k]
section
variable {P : Program} {n : Nat} {E : Env} {H : HP} {d : Option Tmp} {T T' ty : TypeId} {pos : String} {af : Array Edge} {g : Option (Nat × Bool)} {x y : Operand}
theorem v_mulU {i j : Nat} (hx : ev E x = some (.int .u64 i)) (hy : ev E y = some (.int .u64 j)) (h : i * j < 18446744073709551616) :
    Val P B n ⟨d, .binOp .mul T x y T', ty, pos, af, g⟩ E H (.int .u64 (i * j : Nat)) := by
  have := v_mulW (P := P) (B := B) (n := n) (H := H) (d := d) (T := T) (T' := T') (ty := ty) (pos := pos) (af := af) (g := g) hx hy
  rwa [Nat.mod_eq_of_lt h] at this
theorem v_toB {i : Nat} [h1 : TyOf P T (.int .u64)] [h2 : TyOf P T' (.int .u8)] (hx : ev E x = some (.int .u64 i)) : Val P B n ⟨d, .convert T T' x, ty, pos, af, g⟩ E H (u8 (UInt8.ofNat i)) := by
  have := v_conv8 (P := P) (B := B) (n := n) (H := H) (d := d) (T := T) (T' := T') (ty := ty) (pos := pos) (af := af) (g := g) hx
  rw [show u8 (UInt8.ofNat i) = .int .u8 (i % 256 : Nat) by rw [u8, UInt8.toNat_ofNat']]; exact this
end

theorem rvarint_spec (n : Nat) (hn : n ≤ 4611686018427387903) (p : Option Addr) (b o c : Nat) (xs : List UInt8) (s : List Value) (R : HP) (hs : Sl p b o xs.length c) (hc : xs.length * 1 + s.length = c * 1) (hx : xs.length < 1000000000000) :
    Fn Tryd.prog B 46 [.slice p xs.length c, uN n] (arr b o xs s * R) (fun v H' => IsSl R (xs ++ vint n) v H') := by
  refine fn_intro Tryd.func46 rfl rfl rfl ?_
  refine w_seq ?_
  refine w_region rfl ?_
  refine l_val (v_assign rfl) rfl ?_
  refine l_nil ?_
  refine a_normal ?_
  refine w_seq ?_
  refine w_region rfl ?_
  refine l_val (v_assign (v := .int .i64 (1 : Nat)) rfl) rfl ?_
  refine l_nil ?_
  refine a_normal ?_
  refine w_seq ?_
  refine w_region rfl ?_
  refine l_val (v_assign (v := .int .u64 (0 : Nat)) rfl) rfl ?_
  refine l_nil ?_
  refine a_normal ?_
  refine w_seq ?_
  refine w_block ?_
  refine w_seq ?_
  refine w_region rfl ?_
  refine l_val (v_move rfl) rfl ?_
  refine l_val (v_geq (j := 1073741824) rfl rfl) rfl ?_
  refine l_val (v_assign rfl) rfl ?_
  refine l_nil ?_
  refine a_normal ?_
  refine w_cut (α := Unit) (fun _ => [(0, .slice p xs.length c), (1, uN n), (5, iN (szV n)), (6, uN (hdV n))]) (fun _ => arr b o xs s * R) (fun _ => True) ?_ ?_
  · skip
    refine w_condD rfl (fun g30 => ?_) (fun g30 => ?_)
    · skip
      refine w_region rfl ?_
      refine l_val (v_assign (v := .int .i64 (8 : Nat)) rfl) rfl ?_
      refine l_val (v_assign (v := .int .u64 (3 : Nat)) rfl) rfl ?_
      refine l_nil ?_
      exact a_cut () trivial (by rw [show szV n = 8 by unfold szV; rw [if_neg (by omega), if_neg (by omega), if_neg (by omega)], show hdV n = 3 by unfold hdV; rw [if_neg (by omega), if_neg (by omega), if_neg (by omega)]]; exact .cons rfl (.cons rfl (.cons rfl (.cons rfl .nil)))) rfl
    · skip
      refine w_seq ?_
      refine w_region rfl ?_
      refine l_val (v_move rfl) rfl ?_
      refine l_val (v_geq (j := 16384) rfl rfl) rfl ?_
      refine l_val (v_assign rfl) rfl ?_
      refine l_nil ?_
      refine a_normal ?_
      refine w_condD rfl (fun g14 => ?_) (fun g14 => ?_)
      · skip
        refine w_region rfl ?_
        refine l_val (v_assign (v := .int .i64 (4 : Nat)) rfl) rfl ?_
        refine l_val (v_assign (v := .int .u64 (2 : Nat)) rfl) rfl ?_
        refine l_nil ?_
        exact a_cut () trivial (by rw [show szV n = 4 by unfold szV; rw [if_neg (by omega), if_neg (by omega), if_pos (by omega)], show hdV n = 2 by unfold hdV; rw [if_neg (by omega), if_neg (by omega), if_pos (by omega)]]; exact .cons rfl (.cons rfl (.cons rfl (.cons rfl .nil)))) rfl
      · skip
        refine w_seq ?_
        refine w_region rfl ?_
        refine l_val (v_move rfl) rfl ?_
        refine l_val (v_geq (j := 64) rfl rfl) rfl ?_
        refine l_val (v_assign rfl) rfl ?_
        refine l_nil ?_
        refine a_normal ?_
        refine w_condD rfl (fun g6 => ?_) (fun g6 => ?_)
        · skip
          refine w_region rfl ?_
          refine l_val (v_assign (v := .int .i64 (2 : Nat)) rfl) rfl ?_
          refine l_val (v_assign (v := .int .u64 (1 : Nat)) rfl) rfl ?_
          refine l_nil ?_
          exact a_cut () trivial (by rw [show szV n = 2 by unfold szV; rw [if_neg (by omega), if_pos (by omega)], show hdV n = 1 by unfold hdV; rw [if_neg (by omega), if_pos (by omega)]]; exact .cons rfl (.cons rfl (.cons rfl (.cons rfl .nil)))) rfl
        · skip
          refine w_skip ?_
          exact a_cut () trivial (by rw [show szV n = 1 by unfold szV; rw [if_pos (by omega)], show hdV n = 0 by unfold hdV; rw [if_pos (by omega)]]; exact .cons rfl (.cons rfl (.cons rfl (.cons rfl .nil)))) rfl
  · rintro z hz
    have hsz : szV n = 1 ∨ szV n = 2 ∨ szV n = 4 ∨ szV n = 8 := by unfold szV; repeat' split
                                                                   all_goals simp
    have hhd : hdV n ≤ 3 := by unfold hdV; repeat' split
                               all_goals simp
    refine a_bnormal ?_
    refine a_normal ?_
    refine w_seq ?_
    refine w_seq ?_
    refine w_region rfl ?_
    refine l_val (v_move rfl) rfl ?_
    refine l_val (v_subZ (i := (szV n : Nat)) (j := 1) rfl rfl (by omega)) rfl ?_
    refine l_val (v_assign rfl) rfl ?_
    refine l_nil ?_
    refine a_normal ?_
    refine w_block ?_
    refine w_loop (α := Nat × Option Addr × Nat × Nat × Nat × List Value) (fun z => [(0, .slice z.2.1 (xs ++ topV n (szV n) (hdV n) z.1).length z.2.2.2.2.1), (1, uN n), (5, iN (szV n)), (6, uN (hdV n)), (7, .int .i64 ((szV n : Nat) - 1 - (z.1 : Nat)))]) (fun z => arr z.2.2.1 z.2.2.2.1 (xs ++ topV n (szV n) (hdV n) z.1) z.2.2.2.2.2 * R)
      (fun z => z.1 ≤ szV n ∧ Sl z.2.1 z.2.2.1 z.2.2.2.1 (xs ++ topV n (szV n) (hdV n) z.1).length z.2.2.2.2.1 ∧ (xs ++ topV n (szV n) (hdV n) z.1).length * 1 + z.2.2.2.2.2.length = z.2.2.2.2.1 * 1) (fun z => szV n - z.1) (0, p, b, o, c, s) ⟨Nat.zero_le _, by simpa [topV] using hs, by simpa [topV] using hc⟩ (by simp only [topV, List.append_nil]; exact .cons rfl (.cons rfl (.cons rfl (.cons rfl (.cons (congrArg (fun z => some (Value.int .i64 z)) (by omega)) .nil))))) (by simp only [topV, List.append_nil]) ?_
    rintro ⟨k, q, qb, qo, qc, qs⟩ ⟨hk, hqs, hqc⟩
    dsimp only at hk hqs hqc ⊢
    refine w_seq ?_
    refine w_seq ?_
    refine w_region rfl ?_
    refine l_val (v_move rfl) rfl ?_
    refine l_val (v_geqZ (i := (szV n : Nat) - 1 - (k : Nat)) (j := 0) rfl rfl) rfl ?_
    refine l_nil ?_
    refine a_normal ?_
    refine w_condD rfl (fun hge => ?_) (fun hge => ?_)
    · skip
      have hkl : k < szV n := by omega
      refine w_env (E' := [(0, .slice q (xs ++ topV n (szV n) (hdV n) k).length qc), (1, uN n), (5, iN (szV n)), (6, uN (hdV n)), (7, iN (szV n - 1 - k))]) (.cons rfl (.cons rfl (.cons rfl (.cons rfl (.cons (congrArg (fun z => some (Value.int .i64 z)) (by omega)) .nil))))) ?_
      refine w_skip ?_
      refine a_normal ?_
      refine w_seq ?_
      refine w_block ?_
      refine w_seq ?_
      refine w_region rfl ?_
      refine l_val (v_move rfl) rfl ?_
      refine l_val (v_assign rfl) rfl ?_
      refine l_nil ?_
      refine a_normal ?_
      refine w_seq ?_
      refine w_seq ?_
      refine w_region rfl ?_
      refine l_val (v_assign (v := .int .i64 (0 : Nat)) rfl) rfl ?_
      refine l_nil ?_
      refine a_normal ?_
      refine w_block ?_
      refine w_loop (fun j : Nat => [(0, .slice q (xs ++ topV n (szV n) (hdV n) k).length qc), (1, uN n), (5, iN (szV n)), (6, uN (hdV n)), (7, iN (szV n - 1 - k)), (8, uN (n / 256 ^ j)), (9, iN j)]) (fun _ => arr qb qo (xs ++ topV n (szV n) (hdV n) k) qs * R) (fun j => j ≤ szV n - 1 - k) (fun j => szV n - 1 - k - j) 0 (Nat.zero_le _) (.cons rfl (.cons rfl (.cons rfl (.cons rfl (.cons rfl (.cons (congrArg (fun z => some (uN z)) (by rw [Nat.pow_zero, Nat.div_one])) (.cons rfl .nil))))))) rfl ?_
      rintro j hj
      dsimp only at hj ⊢
      have hjn : n / 256 ^ j ≤ n := Nat.div_le_self _ _
      refine w_seq ?_
      refine w_seq ?_
      refine w_region rfl ?_
      refine l_val (v_move rfl) rfl ?_
      refine l_val (v_move rfl) rfl ?_
      refine l_val (v_lss rfl rfl) rfl ?_
      refine l_nil ?_
      refine a_normal ?_
      refine w_condD rfl (fun hjl => ?_) (fun hjl => ?_)
      · skip
        refine w_skip ?_
        refine a_normal ?_
        refine w_seq ?_
        refine w_block ?_
        refine w_region rfl ?_
        refine l_val (v_move rfl) rfl ?_
        refine l_val (v_quoU (j := 256) rfl rfl ⟨by omega, by omega⟩) rfl ?_
        refine l_val (v_assign rfl) rfl ?_
        refine l_nil ?_
        refine a_bnormal ?_
        refine a_normal ?_
        refine w_region rfl ?_
        refine l_val (v_move rfl) rfl ?_
        refine l_val (v_addI (j := 1) rfl rfl (by omega)) rfl ?_
        refine l_val (v_assign rfl) rfl ?_
        refine l_nil ?_
        exact a_loop (j + 1) (by show j + 1 ≤ _; omega) (by show szV n - 1 - k - (j + 1) < szV n - 1 - k - j; omega) (.cons rfl (.cons rfl (.cons rfl (.cons rfl (.cons rfl (.cons (congrArg (fun z => some (uN z)) (by rw [Nat.pow_succ, Nat.div_div_eq_div_mul])) (.cons rfl .nil))))))) rfl
      · skip
        obtain rfl : j = szV n - 1 - k := by omega
        refine w_exit ?_
        refine a_texit ?_
        refine a_texit ?_
        refine a_bexit ?_
        refine a_normal ?_
        refine w_seq ?_
        refine w_region rfl ?_
        refine l_val (v_move rfl) rfl ?_
        refine l_val (v_rem (j := 256) rfl rfl (by omega)) rfl ?_
        refine l_val (v_assign rfl) rfl ?_
        refine l_nil ?_
        refine a_normal ?_
        refine w_seq ?_
        refine w_seq ?_
        refine w_region rfl ?_
        refine l_val (v_move rfl) rfl ?_
        refine l_val (v_move rfl) rfl ?_
        refine l_val (v_subI (j := 1) rfl rfl (by omega)) rfl ?_
        refine l_val (v_eql rfl rfl) rfl ?_
        refine l_nil ?_
        refine a_normal ?_
        refine w_cut (α := Unit) (fun _ => [(0, .slice q (xs ++ topV n (szV n) (hdV n) k).length qc), (1, uN n), (5, iN (szV n)), (6, uN (hdV n)), (7, iN (szV n - 1 - k)), (8, uN (n / 256 ^ (szV n - 1 - k) % 256 + (if k = 0 then hdV n * 64 else 0)))]) (fun _ => arr qb qo (xs ++ topV n (szV n) (hdV n) k) qs * R) (fun _ => True) ?_ ?_
        · skip
          refine w_condD rfl (fun hk0 => ?_) (fun hk0 => ?_)
          · skip
            refine w_region rfl ?_
            refine l_val (v_move rfl) rfl ?_
            refine l_val (v_move rfl) rfl ?_
            refine l_val (v_mulU (j := 64) rfl rfl (by omega)) rfl ?_
            refine l_val (v_addU rfl rfl (by omega)) rfl ?_
            refine l_val (v_assign rfl) rfl ?_
            refine l_nil ?_
            exact a_cut () trivial (by rw [if_pos (by omega)]; exact .cons rfl (.cons rfl (.cons rfl (.cons rfl (.cons rfl (.cons rfl .nil)))))) rfl
          · skip
            refine w_skip ?_
            exact a_cut () trivial (by rw [if_neg (by omega)]; exact .cons rfl (.cons rfl (.cons rfl (.cons rfl (.cons rfl (.cons rfl .nil)))))) rfl
        · rintro z hz
          refine a_normal ?_
          refine w_region rfl ?_
          refine l_val (v_move rfl) rfl ?_
          refine l_val (v_move rfl) rfl ?_
          refine l_val (v_toB rfl) rfl ?_
          refine l_eff (e_mk1 rfl rfl (by simp [Value.oneCell']) rfl rfl rfl) rfl ?_
          rintro _ _ ⟨b46, rfl, rfl⟩
          refine l_heap (H' := arr qb qo (xs ++ topV n (szV n) (hdV n) k) qs * (HP.pts b46 0 (flat [UInt8.ofNat (n / 256 ^ (szV n - 1 - k) % 256 + (if k = 0 then hdV n * 64 else 0))]) * R)) (by rw [HP.left_comm]; rfl) ?_
          refine l_eff (e_append (ys := [UInt8.ofNat (n / 256 ^ (szV n - 1 - k) % 256 + (if k = 0 then hdV n * 64 else 0))]) (bb := b46) (oo := 0) (cc := 1) rfl hqs hqc rfl ⟨.inr rfl, Nat.le_refl _⟩ inferInstance rfl (by have := topV_length n (szV n) (hdV n) k; simp only [List.length_append, List.length_singleton]; omega) (by omega)) rfl ?_
          rintro _ _ ⟨p47, b47, o47, c47, s47, rfl, hs47, hc47, rfl⟩
          rw [List.append_assoc] at hs47 hc47 ⊢
          refine l_heap (H' := arr b47 o47 (xs ++ topV n (szV n) (hdV n) (k + 1)) s47 * (HP.pts b46 0 (flat [UInt8.ofNat (n / 256 ^ (szV n - 1 - k) % 256 + (if k = 0 then hdV n * 64 else 0))]) * R)) rfl ?_
          refine l_val (v_assign rfl) rfl ?_
          refine l_nil ?_
          refine a_bnormal ?_
          refine a_normal ?_
          refine w_region rfl ?_
          refine l_val (v_move rfl) rfl ?_
          refine l_val (v_subZ (i := ((szV n - 1 - k : Nat) : Int)) (j := 1) rfl rfl (by omega)) rfl ?_
          refine l_val (v_assign rfl) rfl ?_
          refine l_nil ?_
          exact a_ent (arr b47 o47 (xs ++ topV n (szV n) (hdV n) (k + 1)) s47 * R) (a_loop (k + 1, p47, b47, o47, c47, s47) ⟨by omega, hs47, hc47⟩ (by show szV n - (k + 1) < szV n - k; omega) (.cons rfl (.cons rfl (.cons rfl (.cons rfl (.cons (congrArg (fun z => some (Value.int .i64 z)) (by omega)) .nil))))) rfl)
    · skip
      obtain rfl : k = szV n := by omega
      refine w_exit ?_
      refine a_texit ?_
      refine a_texit ?_
      refine a_bexit ?_
      refine a_normal ?_
      refine w_seq ?_
      refine w_region rfl ?_
      refine l_val (v_move rfl) rfl ?_
      refine l_val (v_assign rfl) rfl ?_
      refine l_nil ?_
      refine a_normal ?_
      refine w_ret ?_
      rw [topV_vint n hn] at hqs hqc ⊢
      exact a_retD (ts := [4]) (arr qb qo (xs ++ vint n) qs * R) rfl rfl ⟨q, qb, qo, qc, qs, rfl, hqs, hqc, rfl⟩
end Go.Proofs.YtgfdlpcdjklcoaaDoor
