/- Contracts of package sealstreamref: frames read; no condition. -/
import Derived.Test.YtgfdlpcdjklcoaaDoorRefWire2
import Derived.Test.YtgfdlpcdjklcoaaDoorWire5
namespace Go.Proofs.YtgfdlpcdjklcoaaDoor
open Go Go.RowKit
set_option linter.unusedVariables false
set_option maxRecDepth 20000
variable {B : World}
/-- the reference's reader in memory -/
abbrev rr (rb : Nat) (p : Option Addr) (c : Nat) (xs : List UInt8) (a : Nat) (bad : Bool) : HP := HP.pts rb 0 [.slice p xs.length c, iN a, .bool bad]
section
variable {P : Program} {n : Nat} {E : Env} {H : HP} {d : Option Tmp} {T T' ty : TypeId} {pos : String} {af : Array Edge} {g : Option (Nat × Bool)} {x y : Operand}
theorem v_sub8 {i j : Nat} (hx : ev E x = some (.int .u8 i)) (hy : ev E y = some (.int .u8 j)) (h : j ≤ i ∧ i < 256) :
    Val P B n ⟨d, .binOp .sub T x y T', ty, pos, af, g⟩ E H (.int .u8 (i - j : Nat)) :=
  v_int hx hy fun w => by
    simp only [binOp, Op.intArith]
    rw [show ((i - j : Nat) : Int) = (i : Int) - j by omega, IntWalk.u8_in _ (by omega)]; rfl
end

theorem rnumber_spec (rb : Nat) (p : Option Addr) (b o c : Nat) (xs : List UInt8) (a : Nat) (bad : Bool) (R : HP) (hs : Sl p b o xs.length c) (hr : RdA B R b o xs) (hx : xs.length < 10000000000) (ha : a ≤ xs.length) :
    Fn Tryd.prog B 52 [ptr rb 0] (rr rb p c xs a bad * R) (fun v H' => ∃ n a' bad', v = uN n ∧ H' = rr rb p c xs a' bad' * R ∧ ((rdN xs a = some (n, a') ∧ bad' = bad) ∨ (rdN xs a = none ∧ n = 0 ∧ a' = a ∧ bad' = true))) := by
  refine fn_intro Tryd.func52 rfl rfl rfl ?_
  have hzc := szAt_cases xs a
  have hb := (xs.getD a 0).toNat_lt
  refine w_seq ?_
  refine w_region rfl ?_
  refine l_val (v_assign (v := .int .u64 (0 : Nat)) rfl) rfl ?_
  refine l_nil ?_
  refine a_normal ?_
  refine w_seq ?_
  refine w_seq ?_
  refine w_anyH 10 10 mixed rfl (by kernel_rfl) ?_
  refine s_take 0 rfl (by kernel_rfl) rfl (v_move rfl) ?_
  refine s_take 1 rfl (by kernel_rfl) rfl (v_nilCheck rfl) ?_
  refine s_take 2 rfl (by kernel_rfl) rfl (v_fieldAddr rfl) ?_
  refine s_take 3 rfl (by kernel_rfl) rfl (v_load rfl trivial) ?_
  refine s_take 4 rfl (by kernel_rfl) rfl (v_move rfl) ?_
  refine s_take 5 rfl (by kernel_rfl) rfl (v_nilCheck rfl) ?_
  refine s_take 6 rfl (by kernel_rfl) rfl (v_fieldAddr rfl) ?_
  refine s_take 7 rfl (by kernel_rfl) rfl (v_load rfl trivial) ?_
  refine s_take 8 rfl (by kernel_rfl) rfl (v_lenS rfl) ?_
  refine s_take 9 rfl (by kernel_rfl) rfl (v_geq rfl rfl) ?_
  refine s_done (by kernel_rfl) ?_
  refine a_normal ?_
  refine w_condD rfl (fun hge => ?_) (fun hlt => ?_)
  · skip
    refine w_seq ?_
    refine w_region rfl ?_
    refine l_val (v_move rfl) rfl ?_
    refine l_val (v_nilCheck rfl) rfl ?_
    refine l_val (v_fieldAddr rfl) rfl ?_
    refine l_eff0 (e_store (v := .bool true) rfl rfl rfl trivial) ?_
    rintro _ _ ⟨rfl, rfl⟩
    refine l_nil ?_
    refine a_normal ?_
    refine w_seq ?_
    refine w_region rfl ?_
    refine l_val (v_assign (v := .int .u64 (0 : Nat)) rfl) rfl ?_
    refine l_nil ?_
    refine a_normal ?_
    refine w_ret ?_
    refine a_tret ?_
    exact a_ret (ts := [2]) rfl rfl ⟨0, a, true, rfl, rfl, .inr ⟨by unfold rdN; exact if_neg (by omega), rfl, rfl, rfl⟩⟩
  · skip
    refine w_skip ?_
    refine a_normal ?_
    refine w_seq ?_
    refine w_anyH 13 13 mixed rfl (by kernel_rfl) ?_
    refine s_take 0 rfl (by kernel_rfl) rfl (v_move rfl) ?_
    refine s_take 1 rfl (by kernel_rfl) rfl (v_nilCheck rfl) ?_
    refine s_take 2 rfl (by kernel_rfl) rfl (v_fieldAddr rfl) ?_
    refine s_take 3 rfl (by kernel_rfl) rfl (v_load rfl trivial) ?_
    refine s_take 4 rfl (by kernel_rfl) rfl (v_move rfl) ?_
    refine s_take 5 rfl (by kernel_rfl) rfl (v_nilCheck rfl) ?_
    refine s_take 6 rfl (by kernel_rfl) rfl (v_fieldAddr rfl) ?_
    refine s_take 7 rfl (by kernel_rfl) rfl (v_load rfl trivial) ?_
    refine s_take 8 rfl (by kernel_rfl) rfl (v_indexAddrR (i := a) (b := b) (o := o) rfl rfl hs (by omega)) ?_
    refine s_take 9 rfl (by kernel_rfl) rfl (v_loadB (i := a) (xs := xs) rfl inferInstance (by omega)) ?_
    refine s_take 10 rfl (by kernel_rfl) rfl (v_rem (k := .u8) (i := (xs.getD a 0).toNat) (j := 64) rfl rfl (by omega)) ?_
    refine s_take 11 rfl (by kernel_rfl) rfl (v_conv (i := (xs.getD a 0).toNat % 64) rfl (fit_u64 (by omega))) ?_
    refine s_take 12 rfl (by kernel_rfl) rfl (v_assign rfl) ?_
    refine s_done (by kernel_rfl) ?_
    refine a_normal ?_
    refine w_seq ?_
    refine w_region rfl ?_
    refine l_val (v_assign (v := .int .i64 (1 : Nat)) rfl) rfl ?_
    refine l_nil ?_
    refine a_normal ?_
    refine w_seq ?_
    refine w_seq ?_
    refine w_anyH 12 12 mixed rfl (by kernel_rfl) ?_
    refine s_take 0 rfl (by kernel_rfl) rfl (v_move rfl) ?_
    refine s_take 1 rfl (by kernel_rfl) rfl (v_nilCheck rfl) ?_
    refine s_take 2 rfl (by kernel_rfl) rfl (v_fieldAddr rfl) ?_
    refine s_take 3 rfl (by kernel_rfl) rfl (v_load rfl trivial) ?_
    refine s_take 4 rfl (by kernel_rfl) rfl (v_move rfl) ?_
    refine s_take 5 rfl (by kernel_rfl) rfl (v_nilCheck rfl) ?_
    refine s_take 6 rfl (by kernel_rfl) rfl (v_fieldAddr rfl) ?_
    refine s_take 7 rfl (by kernel_rfl) rfl (v_load rfl trivial) ?_
    refine s_take 8 rfl (by kernel_rfl) rfl (v_indexAddrR (i := a) (b := b) (o := o) rfl rfl hs (by omega)) ?_
    refine s_take 9 rfl (by kernel_rfl) rfl (v_loadB (i := a) (xs := xs) rfl inferInstance (by omega)) ?_
    refine s_take 10 rfl (by kernel_rfl) rfl (v_quo8 (i := (xs.getD a 0).toNat) (j := 64) rfl rfl ⟨by omega, by omega⟩) ?_
    refine s_take 11 rfl (by kernel_rfl) rfl (v_assign rfl) ?_
    refine s_done (by kernel_rfl) ?_
    refine a_normal ?_
    refine w_block ?_
    refine w_loop (fun j : Nat => [(0, ptr rb 0), (3, uN (numAt xs a 0)), (4, iN (2 ^ j)), (5, .int .u8 ((xs.getD a 0).toNat / 64 - j : Nat))]) (fun _ => rr rb p c xs a bad * R) (fun j => j ≤ (xs.getD a 0).toNat / 64) (fun j => (xs.getD a 0).toNat / 64 - j) 0 (Nat.zero_le _) (.cons rfl (.cons rfl (.cons rfl (.cons rfl .nil)))) rfl ?_
    rintro j hj
    dsimp only at hj ⊢
    have hp2 : 2 ^ j ≤ 8 := by
      rcases (by omega : j = 0 ∨ j = 1 ∨ j = 2 ∨ j = 3) with rfl | rfl | rfl | rfl <;> simp
    refine w_seq ?_
    refine w_seq ?_
    refine w_region rfl ?_
    refine l_val (v_move rfl) rfl ?_
    refine l_val (v_gtr (j := 0) rfl rfl) rfl ?_
    refine l_nil ?_
    refine a_normal ?_
    refine w_condD rfl (fun hgt => ?_) (fun hgt => ?_)
    · skip
      refine w_skip ?_
      refine a_normal ?_
      refine w_seq ?_
      refine w_block ?_
      refine w_region rfl ?_
      refine l_val (v_move rfl) rfl ?_
      refine l_val (v_mulI (j := 2) rfl rfl (by omega)) rfl ?_
      refine l_val (v_assign rfl) rfl ?_
      refine l_nil ?_
      refine a_bnormal ?_
      refine a_normal ?_
      refine w_region rfl ?_
      refine l_val (v_move rfl) rfl ?_
      refine l_val (v_sub8 (j := 1) rfl rfl ⟨by omega, by omega⟩) rfl ?_
      refine l_val (v_assign rfl) rfl ?_
      refine l_nil ?_
      exact a_loop (j + 1) (by show j + 1 ≤ _; omega) (by show (xs.getD a 0).toNat / 64 - (j + 1) < (xs.getD a 0).toNat / 64 - j; omega) (.cons rfl (.cons rfl (.cons (congrArg (fun z => some (iN z)) (by rw [Nat.pow_succ])) (.cons (congrArg (fun z => some (Value.int .u8 ((z : Nat) : Int))) (by omega)) .nil)))) rfl
    · skip
      obtain rfl : j = (xs.getD a 0).toNat / 64 := by omega
      refine w_env (E' := [(0, ptr rb 0), (3, uN (numAt xs a 0)), (4, iN (szAt xs a))]) (.cons rfl (.cons rfl (.cons rfl .nil))) ?_
      refine w_exit ?_
      refine a_texit ?_
      refine a_texit ?_
      refine a_bexit ?_
      refine a_normal ?_
      refine w_seq ?_
      refine w_seq ?_
      refine w_anyH 12 12 mixed rfl (by kernel_rfl) ?_
      refine s_take 0 rfl (by kernel_rfl) rfl (v_move rfl) ?_
      refine s_take 1 rfl (by kernel_rfl) rfl (v_nilCheck rfl) ?_
      refine s_take 2 rfl (by kernel_rfl) rfl (v_fieldAddr rfl) ?_
      refine s_take 3 rfl (by kernel_rfl) rfl (v_load rfl trivial) ?_
      refine s_take 4 rfl (by kernel_rfl) rfl (v_move rfl) ?_
      refine s_take 5 rfl (by kernel_rfl) rfl (v_addI rfl rfl (by omega)) ?_
      refine s_take 6 rfl (by kernel_rfl) rfl (v_move rfl) ?_
      refine s_take 7 rfl (by kernel_rfl) rfl (v_nilCheck rfl) ?_
      refine s_take 8 rfl (by kernel_rfl) rfl (v_fieldAddr rfl) ?_
      refine s_take 9 rfl (by kernel_rfl) rfl (v_load rfl trivial) ?_
      refine s_take 10 rfl (by kernel_rfl) rfl (v_lenS rfl) ?_
      refine s_take 11 rfl (by kernel_rfl) rfl (v_gtr rfl rfl) ?_
      refine s_done (by kernel_rfl) ?_
      refine a_normal ?_
      refine w_condD rfl (fun hbig => ?_) (fun hfit => ?_)
      · skip
        refine w_seq ?_
        refine w_region rfl ?_
        refine l_val (v_move rfl) rfl ?_
        refine l_val (v_nilCheck rfl) rfl ?_
        refine l_val (v_fieldAddr rfl) rfl ?_
        refine l_eff0 (e_store (v := .bool true) rfl rfl rfl trivial) ?_
        rintro _ _ ⟨rfl, rfl⟩
        refine l_nil ?_
        refine a_normal ?_
        refine w_seq ?_
        refine w_region rfl ?_
        refine l_val (v_assign (v := .int .u64 (0 : Nat)) rfl) rfl ?_
        refine l_nil ?_
        refine a_normal ?_
        refine w_ret ?_
        refine a_tret ?_
        exact a_ret (ts := [2]) rfl rfl ⟨0, a, true, rfl, rfl, .inr ⟨by unfold rdN; exact if_neg (by omega), rfl, rfl, rfl⟩⟩
      · skip
        refine w_skip ?_
        refine a_normal ?_
        refine w_seq ?_
        refine w_seq ?_
        refine w_region rfl ?_
        refine l_val (v_assign (v := .int .i64 (1 : Nat)) rfl) rfl ?_
        refine l_nil ?_
        refine a_normal ?_
        refine w_block ?_
        refine w_loop (fun j : Nat => [(0, ptr rb 0), (3, uN (numAt xs a j)), (4, iN (szAt xs a)), (6, iN (j + 1))]) (fun _ => rr rb p c xs a bad * R) (fun j => j ≤ szAt xs a - 1) (fun j => szAt xs a - 1 - j) 0 (Nat.zero_le _) (.cons rfl (.cons rfl (.cons rfl (.cons rfl .nil)))) rfl ?_
        rintro j hj
        dsimp only at hj ⊢
        have hnl := numAt_lt xs a j
        have hnl2 : numAt xs a j < 72057594037927936 ∨ szAt xs a - 1 ≤ j := by
          rcases (by omega : szAt xs a - 1 ≤ j ∨ j = 0 ∨ j = 1 ∨ j = 2 ∨ j = 3 ∨ j = 4 ∨ j = 5 ∨ j = 6) with h | rfl | rfl | rfl | rfl | rfl | rfl | rfl
          · exact .inr h
          all_goals (left; simp only [Nat.reducePow, Nat.reduceMul] at hnl; omega)
        have hb2 := bAt_lt xs (a + j + 1)
        have hb3 : (xs.getD (a + j + 1) 0).toNat < 256 := hb2
        refine w_seq ?_
        refine w_seq ?_
        refine w_region rfl ?_
        refine l_val (v_move rfl) rfl ?_
        refine l_val (v_move rfl) rfl ?_
        refine l_val (v_lss rfl rfl) rfl ?_
        refine l_nil ?_
        refine a_normal ?_
        refine w_condD rfl (fun hl6 => ?_) (fun hl6 => ?_)
        · skip
          refine w_skip ?_
          refine a_normal ?_
          refine w_seq ?_
          refine w_block ?_
          refine w_anyH 17 17 mixed rfl (by kernel_rfl) ?_
          refine s_take 0 rfl (by kernel_rfl) rfl (v_move rfl) ?_
          refine s_take 1 rfl (by kernel_rfl) rfl (v_mulU (j := 256) rfl rfl (by omega)) ?_
          refine s_take 2 rfl (by kernel_rfl) rfl (v_move rfl) ?_
          refine s_take 3 rfl (by kernel_rfl) rfl (v_nilCheck rfl) ?_
          refine s_take 4 rfl (by kernel_rfl) rfl (v_fieldAddr rfl) ?_
          refine s_take 5 rfl (by kernel_rfl) rfl (v_load rfl trivial) ?_
          refine s_take 6 rfl (by kernel_rfl) rfl (v_move rfl) ?_
          refine s_take 7 rfl (by kernel_rfl) rfl (v_nilCheck rfl) ?_
          refine s_take 8 rfl (by kernel_rfl) rfl (v_fieldAddr rfl) ?_
          refine s_take 9 rfl (by kernel_rfl) rfl (v_load rfl trivial) ?_
          refine s_take 10 rfl (by kernel_rfl) rfl (v_move rfl) ?_
          refine s_take 11 rfl (by kernel_rfl) rfl (v_addI rfl rfl (by omega)) ?_
          refine s_take 12 rfl (by kernel_rfl) rfl (v_indexAddrRe (i := a + (j + 1)) (b := b) (o := o) (q := o + (a + j + 1) * 1) rfl rfl hs (by omega) (by omega)) ?_
          refine s_take 13 rfl (by kernel_rfl) rfl (v_loadB (i := a + j + 1) (xs := xs) rfl inferInstance (by omega)) ?_
          refine s_take 14 rfl (by kernel_rfl) rfl (v_conv (i := (xs.getD (a + j + 1) 0).toNat) rfl (fit_u64 (by omega))) ?_
          refine s_take 15 rfl (by kernel_rfl) rfl (v_addU rfl rfl (by omega)) ?_
          refine s_take 16 rfl (by kernel_rfl) rfl (v_assign rfl) ?_
          refine s_done (by kernel_rfl) ?_
          refine a_bnormal ?_
          refine a_normal ?_
          refine w_region rfl ?_
          refine l_val (v_move rfl) rfl ?_
          refine l_val (v_addI (i := j + 1) (j := 1) rfl rfl (by omega)) rfl ?_
          refine l_val (v_assign rfl) rfl ?_
          refine l_nil ?_
          exact a_loop (j + 1) (by show j + 1 ≤ _; omega) (by show szAt xs a - 1 - (j + 1) < szAt xs a - 1 - j; omega) (.cons rfl (.cons rfl (.cons rfl (.cons rfl .nil)))) rfl
        · skip
          obtain rfl : j = szAt xs a - 1 := by omega
          refine w_exit ?_
          refine a_texit ?_
          refine a_texit ?_
          refine a_bexit ?_
          refine a_normal ?_
          refine w_seq ?_
          refine w_region rfl ?_
          refine l_val (v_move rfl) rfl ?_
          refine l_val (v_move rfl) rfl ?_
          refine l_val (v_nilCheck rfl) rfl ?_
          refine l_val (v_fieldAddr rfl) rfl ?_
          refine l_val (v_load rfl trivial) rfl ?_
          refine l_val (v_move rfl) rfl ?_
          refine l_val (v_addI rfl rfl (by omega)) rfl ?_
          refine l_val (v_nilCheck rfl) rfl ?_
          refine l_val (v_fieldAddr rfl) rfl ?_
          refine l_eff0 (e_store rfl rfl rfl (by first | trivial | omega)) ?_
          rintro _ _ ⟨rfl, rfl⟩
          refine l_nil ?_
          refine a_normal ?_
          refine w_seq ?_
          refine w_region rfl ?_
          refine l_val (v_move rfl) rfl ?_
          refine l_val (v_assign rfl) rfl ?_
          refine l_nil ?_
          refine a_normal ?_
          refine w_ret ?_
          exact a_ret (ts := [2]) rfl rfl ⟨_, _, bad, rfl, rfl, .inl ⟨by unfold rdN; exact if_pos (by omega), rfl⟩⟩

theorem num_ok {xs : List UInt8} {a n a' : Nat} {bad bad' : Bool} (ha : a ≤ xs.length) (h : (rdN xs a = some (n, a') ∧ bad' = bad) ∨ (rdN xs a = none ∧ n = 0 ∧ a' = a ∧ bad' = true)) : n ≤ 4611686018427387903 ∧ a' ≤ xs.length ∧ a ≤ a' := by
  rcases h with ⟨h, _⟩ | ⟨_, rfl, rfl, _⟩
  · have := rdN_some h; omega
  · omega

theorem rstream_spec (rb : Nat) (p : Option Addr) (b o c : Nat) (xs : List UInt8) (a : Nat) (bad : Bool) (R : HP) (hs : Sl p b o xs.length c) (hr : RdA B R b o xs) (hx : xs.length < 10000000000) (ha : a ≤ xs.length) :
    Fn Tryd.prog B 51 [ptr rb 0] (rr rb p c xs a bad * R) (fun v H' => ∃ n a' bad', v = iN n ∧ H' = rr rb p c xs a' bad' * R ∧ ((rdS xs a = some (n, a') ∧ bad' = bad) ∨ (rdS xs a = none ∧ bad' = true ∧ a' ≤ xs.length))) := by
  refine fn_intro Tryd.func51 rfl rfl rfl ?_
  refine w_seq ?_
  refine w_region rfl ?_
  refine l_val (v_assign (v := .int .i64 (0 : Nat)) rfl) rfl ?_
  refine l_nil ?_
  refine a_normal ?_
  refine w_seq ?_
  refine w_region rfl ?_
  refine l_val (v_move rfl) rfl ?_
  refine l_eff (e_call rfl (rnumber_spec rb p b o c xs a bad _ hs inferInstance hx (by omega))) rfl ?_
  rintro _ _ ⟨n5, a5, bad5, rfl, rfl, h5⟩
  have g5 := num_ok (by omega) h5
  refine l_val (v_assign rfl) rfl ?_
  refine l_nil ?_
  refine a_normal ?_
  refine w_seq ?_
  refine w_seq ?_
  refine w_region rfl ?_
  refine l_val (v_move rfl) rfl ?_
  refine l_val (v_geq (j := 4) rfl rfl) rfl ?_
  refine l_nil ?_
  refine a_normal ?_
  refine w_condD rfl (fun hbig => ?_) (fun hbig => ?_)
  · skip
    refine w_seq ?_
    refine w_region rfl ?_
    refine l_val (v_move rfl) rfl ?_
    refine l_val (v_nilCheck rfl) rfl ?_
    refine l_val (v_fieldAddr rfl) rfl ?_
    refine l_eff0 (e_store (v := .bool true) rfl rfl rfl trivial) ?_
    rintro _ _ ⟨rfl, rfl⟩
    refine l_nil ?_
    refine a_normal ?_
    refine w_seq ?_
    refine w_region rfl ?_
    refine l_val (v_assign (v := .int .i64 (0 : Nat)) rfl) rfl ?_
    refine l_nil ?_
    refine a_normal ?_
    refine w_ret ?_
    refine a_tret ?_
    exact a_ret (ts := [2]) rfl rfl ⟨0, a5, true, rfl, rfl, .inr ⟨by
        rcases h5 with ⟨h, _⟩ | ⟨h, rfl, _, _⟩
        · unfold rdS; rw [h]; exact if_neg (by omega)
        · omega, rfl, by omega⟩⟩
  · skip
    refine w_skip ?_
    refine a_normal ?_
    refine w_seq ?_
    refine w_region rfl ?_
    refine l_val (v_move rfl) rfl ?_
    refine l_val (v_conv rfl (fit_i64 (by omega))) rfl ?_
    refine l_val (v_assign rfl) rfl ?_
    refine l_nil ?_
    refine a_normal ?_
    refine w_ret ?_
    exact a_ret (ts := [2]) rfl rfl ⟨n5, a5, bad5, rfl, rfl, by
        rcases h5 with ⟨h, rfl⟩ | ⟨h, rfl, rfl, rfl⟩
        · exact .inl ⟨by unfold rdS; rw [h]; exact if_pos (by omega), rfl⟩
        · exact .inr ⟨by unfold rdS; rw [h], rfl, by omega⟩⟩

theorem rtext_spec (rb : Nat) (p : Option Addr) (b o c : Nat) (xs : List UInt8) (a : Nat) (bad : Bool) (R : HP) (hs : Sl p b o xs.length c) (hr : RdA B R b o xs) (hx : xs.length < 10000000000) (ha : a ≤ xs.length) :
    Fn Tryd.prog B 53 [ptr rb 0] (rr rb p c xs a bad * R) (fun v H' => ∃ d a' bad', v = .string d ∧ H' = rr rb p c xs a' bad' * R ∧ a' ≤ xs.length ∧ ((bad = false ∧ ∃ l, rdT xs a = some (l, a') ∧ d = bstr l ∧ bad' = false) ∨ (bad' = true ∧ (bad = true ∨ rdT xs a = none))) ∧ d.size < 100000000000) := by
  refine fn_intro Tryd.func53 rfl rfl rfl ?_
  refine w_seq ?_
  refine w_region rfl ?_
  refine l_val (v_assign rfl) rfl ?_
  refine l_nil ?_
  refine a_normal ?_
  refine w_seq ?_
  refine w_region rfl ?_
  refine l_val (v_move rfl) rfl ?_
  refine l_eff (e_call rfl (rnumber_spec rb p b o c xs a bad _ hs inferInstance hx (by omega))) rfl ?_
  rintro _ _ ⟨n6, a6, bad6, rfl, rfl, h6⟩
  have g6 := num_ok (by omega) h6
  refine l_val (v_assign rfl) rfl ?_
  refine l_nil ?_
  refine a_normal ?_
  refine w_seq ?_
  refine w_seq ?_
  refine w_anyH 19 19 mixed rfl (by kernel_rfl) ?_
  refine s_take 0 rfl (by kernel_rfl) rfl (v_move rfl) ?_
  refine s_take 1 rfl (by kernel_rfl) rfl (v_nilCheck rfl) ?_
  refine s_take 2 rfl (by kernel_rfl) rfl (v_fieldAddr rfl) ?_
  refine s_take 3 rfl (by kernel_rfl) rfl (v_load rfl trivial) ?_
  refine s_take 4 rfl (by kernel_rfl) rfl (v_move rfl) ?_
  refine s_caseB 11 rfl (fun hg1 => ?_) (fun hg1 => ?_)
  · skip
    refine s_gN 5 rfl (by kernel_rfl) rfl rfl rfl hg1 ?_
    refine s_gN 6 rfl (by kernel_rfl) rfl rfl rfl hg1 ?_
    refine s_gN 7 rfl (by kernel_rfl) rfl rfl rfl hg1 ?_
    refine s_gN 8 rfl (by kernel_rfl) rfl rfl rfl hg1 ?_
    refine s_gN 9 rfl (by kernel_rfl) rfl rfl rfl hg1 ?_
    refine s_gN 10 rfl (by kernel_rfl) rfl rfl rfl hg1 ?_
    refine s_gN 11 rfl (by kernel_rfl) rfl rfl rfl hg1 ?_
    refine s_gN 12 rfl (by kernel_rfl) rfl rfl rfl hg1 ?_
    refine s_gN 13 rfl (by kernel_rfl) rfl rfl rfl hg1 ?_
    refine s_gN 14 rfl (by kernel_rfl) rfl rfl rfl hg1 ?_
    refine s_gN 15 rfl (by kernel_rfl) rfl rfl rfl hg1 ?_
    refine s_gN 16 rfl (by kernel_rfl) rfl rfl rfl hg1 ?_
    refine s_gN 17 rfl (by kernel_rfl) rfl rfl rfl hg1 ?_
    refine s_take 18 rfl (by kernel_rfl) rfl (v_pickY hg1 rfl rfl) ?_
    refine s_done (by kernel_rfl) ?_
    refine a_normal ?_
    refine w_condY rfl rfl ?_
    refine w_seq ?_
    refine w_region rfl ?_
    refine l_val (v_move rfl) rfl ?_
    refine l_val (v_nilCheck rfl) rfl ?_
    refine l_val (v_fieldAddr rfl) rfl ?_
    refine l_eff0 (e_store (v := .bool true) rfl rfl rfl trivial) ?_
    rintro _ _ ⟨rfl, rfl⟩
    refine l_nil ?_
    refine a_normal ?_
    refine w_seq ?_
    refine w_region rfl ?_
    refine l_val (v_assign rfl) rfl ?_
    refine l_nil ?_
    refine a_normal ?_
    refine w_ret ?_
    refine a_tret ?_
    exact a_ret (ts := [2]) rfl rfl ⟨⟨#[]⟩, a6, true, rfl, rfl, by omega, .inr ⟨rfl, by
        rcases h6 with ⟨h, rfl⟩ | ⟨h, rfl, rfl, rfl⟩
        · exact .inl hg1
        · exact .inr (by unfold rdT; rw [h])⟩, (by decide : 0 < 100000000000)⟩
  · skip
    refine s_gY 5 rfl (by kernel_rfl) rfl rfl rfl hg1 (v_move rfl) ?_
    refine s_gY 6 rfl (by kernel_rfl) rfl rfl rfl hg1 (v_move rfl) ?_
    refine s_gY 7 rfl (by kernel_rfl) rfl rfl rfl hg1 (v_nilCheck rfl) ?_
    refine s_gY 8 rfl (by kernel_rfl) rfl rfl rfl hg1 (v_fieldAddr rfl) ?_
    refine s_gY 9 rfl (by kernel_rfl) rfl rfl rfl hg1 (v_load rfl trivial) ?_
    refine s_gY 10 rfl (by kernel_rfl) rfl rfl rfl hg1 (v_lenS rfl) ?_
    refine s_gY 11 rfl (by kernel_rfl) rfl rfl rfl hg1 (v_move rfl) ?_
    refine s_gY 12 rfl (by kernel_rfl) rfl rfl rfl hg1 (v_nilCheck rfl) ?_
    refine s_gY 13 rfl (by kernel_rfl) rfl rfl rfl hg1 (v_fieldAddr rfl) ?_
    refine s_gY 14 rfl (by kernel_rfl) rfl rfl rfl hg1 (v_load rfl trivial) ?_
    refine s_gY 15 rfl (by kernel_rfl) rfl rfl rfl hg1 (v_subI rfl rfl (by omega)) ?_
    refine s_gY 16 rfl (by kernel_rfl) rfl rfl rfl hg1 (v_conv rfl (fit_u64 (by omega))) ?_
    refine s_gY 17 rfl (by kernel_rfl) rfl rfl rfl hg1 (v_gtr rfl rfl) ?_
    refine s_take 18 rfl (by kernel_rfl) rfl (v_pickN hg1 rfl rfl) ?_
    refine s_done (by kernel_rfl) ?_
    refine a_normal ?_
    refine w_condD rfl (fun hbig => ?_) (fun hbig => ?_)
    · skip
      refine w_seq ?_
      refine w_region rfl ?_
      refine l_val (v_move rfl) rfl ?_
      refine l_val (v_nilCheck rfl) rfl ?_
      refine l_val (v_fieldAddr rfl) rfl ?_
      refine l_eff0 (e_store (v := .bool true) rfl rfl rfl trivial) ?_
      rintro _ _ ⟨rfl, rfl⟩
      refine l_nil ?_
      refine a_normal ?_
      refine w_seq ?_
      refine w_region rfl ?_
      refine l_val (v_assign rfl) rfl ?_
      refine l_nil ?_
      refine a_normal ?_
      refine w_ret ?_
      refine a_tret ?_
      exact a_ret (ts := [2]) rfl rfl ⟨⟨#[]⟩, a6, true, rfl, rfl, by omega, .inr ⟨rfl, by
          rcases h6 with ⟨h, rfl⟩ | ⟨h, rfl, rfl, rfl⟩
          · exact .inr (by unfold rdT; rw [h]; exact if_neg (by omega))
          · exact .inr (by unfold rdT; rw [h])⟩, (by decide : 0 < 100000000000)⟩
    · skip
      refine w_skip ?_
      refine a_normal ?_
      refine w_seq ?_
      have hl6 : ((xs.drop a6).take n6).length = n6 := by simp; omega
      refine w_anyH 18 18 mixed rfl (by kernel_rfl) ?_
      refine s_take 0 rfl (by kernel_rfl) rfl (v_move rfl) ?_
      refine s_take 1 rfl (by kernel_rfl) rfl (v_nilCheck rfl) ?_
      refine s_take 2 rfl (by kernel_rfl) rfl (v_fieldAddr rfl) ?_
      refine s_take 3 rfl (by kernel_rfl) rfl (v_load rfl trivial) ?_
      refine s_take 4 rfl (by kernel_rfl) rfl (v_move rfl) ?_
      refine s_take 5 rfl (by kernel_rfl) rfl (v_nilCheck rfl) ?_
      refine s_take 6 rfl (by kernel_rfl) rfl (v_fieldAddr rfl) ?_
      refine s_take 7 rfl (by kernel_rfl) rfl (v_load rfl trivial) ?_
      refine s_take 8 rfl (by kernel_rfl) rfl (v_move rfl) ?_
      refine s_take 9 rfl (by kernel_rfl) rfl (v_nilCheck rfl) ?_
      refine s_take 10 rfl (by kernel_rfl) rfl (v_fieldAddr rfl) ?_
      refine s_take 11 rfl (by kernel_rfl) rfl (v_load rfl trivial) ?_
      refine s_take 12 rfl (by kernel_rfl) rfl (v_move rfl) ?_
      refine s_take 13 rfl (by kernel_rfl) rfl (v_conv rfl (fit_i64 (by omega))) ?_
      refine s_take 14 rfl (by kernel_rfl) rfl (v_addI rfl rfl (by omega)) ?_
      refine s_take 15 rfl (by kernel_rfl) rfl (v_sliceSlhk (l := a6) (h := a6 + n6) (k' := n6) rfl rfl rfl (by have := hs.2; omega) (by omega)) ?_
      refine s_take 16 rfl (by kernel_rfl) rfl (v_bytes2str (xs := (xs.drop a6).take n6) (b := b) (o := o + a6 * 1) (by rw [hl6]; rfl) (by rw [hl6]; exact sp1 hs (by omega)) inferInstance) ?_
      refine s_take 17 rfl (by kernel_rfl) rfl (v_assign rfl) ?_
      refine s_done (by kernel_rfl) ?_
      refine a_normal ?_
      refine w_seq ?_
      refine w_region rfl ?_
      refine l_val (v_move rfl) rfl ?_
      refine l_val (v_move rfl) rfl ?_
      refine l_val (v_nilCheck rfl) rfl ?_
      refine l_val (v_fieldAddr rfl) rfl ?_
      refine l_val (v_load rfl trivial) rfl ?_
      refine l_val (v_move rfl) rfl ?_
      refine l_val (v_conv rfl (fit_i64 (by omega))) rfl ?_
      refine l_val (v_addI rfl rfl (by omega)) rfl ?_
      refine l_val (v_nilCheck rfl) rfl ?_
      refine l_val (v_fieldAddr rfl) rfl ?_
      refine l_eff0 (e_store rfl rfl rfl (by first | trivial | omega)) ?_
      rintro _ _ ⟨rfl, rfl⟩
      refine l_nil ?_
      refine a_normal ?_
      refine w_seq ?_
      refine w_region rfl ?_
      refine l_val (v_move rfl) rfl ?_
      refine l_val (v_assign rfl) rfl ?_
      refine l_nil ?_
      refine a_normal ?_
      refine w_ret ?_
      exact a_ret (ts := [2]) rfl rfl ⟨_, a6 + n6, bad6, rfl, rfl, by omega, (by
          rcases h6 with ⟨h, rfl⟩ | ⟨h, rfl, rfl, rfl⟩
          · exact .inl ⟨hg1, _, by unfold rdT; rw [h]; exact if_pos (by omega), rfl, hg1⟩
          · cases hg1), by rw [bstr_size, hl6]; omega⟩

def rRest (xs : List UInt8) (rs : List Rng) (m a : Nat) : Option (List Rng × Nat) := match rdR xs m (rg rs (rs.length - 1)).lo a with
  | some (rs', a4) => some (rs ++ rs', a4)
  | none => none
theorem rRest_begin {xs : List UInt8} {a hi a1 n a2 size a3 : Nat} (e1 : rdN xs a = some (hi, a1)) (e2 : rdN xs a1 = some (n, a2)) (e3 : rdN xs a2 = some (size, a3)) (hle : size ≤ hi) :
    rdA xs a = rRest xs [⟨hi - size, hi⟩] n a3 := by
  simp only [rdA, e1, e2, e3, rRest]
  have hl : (rg [(⟨hi - size, hi⟩ : Rng)] ([(⟨hi - size, hi⟩ : Rng)].length - 1)).lo = hi - size := rfl
  rw [if_pos hle, hl]
  cases rdR xs n (hi - size) a3 <;> rfl
theorem rRest_end {xs : List UInt8} {rs : List Rng} {a : Nat} : rRest xs rs 0 a = some (rs, a) := by simp [rRest, rdR]
theorem rRest_n1 {xs : List UInt8} {rs : List Rng} {m a : Nat} (e : rdN xs a = none) : rRest xs rs (m + 1) a = none := by simp only [rRest, rdR, e]
theorem rRest_n2 {xs : List UInt8} {rs : List Rng} {m a gap a1 : Nat} (e : rdN xs a = some (gap, a1)) (e2 : rdN xs a1 = none) : rRest xs rs (m + 1) a = none := by simp only [rRest, rdR, e, e2]
theorem rRest_n3 {xs : List UInt8} {rs : List Rng} {m a gap a1 size a2 lo : Nat} (hlo : (rg rs (rs.length - 1)).lo = lo) (e : rdN xs a = some (gap, a1)) (e2 : rdN xs a1 = some (size, a2)) (h : ¬ (2 ≤ lo ∧ gap + 2 ≤ lo ∧ size + gap + 2 ≤ lo)) : rRest xs rs (m + 1) a = none := by
  simp only [rRest, rdR, e, e2, hlo]
  rw [if_neg h]
theorem rRest_step {xs : List UInt8} {rs : List Rng} {m a gap a1 size a2 lo : Nat} (hlo : (rg rs (rs.length - 1)).lo = lo) (e : rdN xs a = some (gap, a1)) (e2 : rdN xs a1 = some (size, a2)) (h : 2 ≤ lo ∧ gap + 2 ≤ lo ∧ size + gap + 2 ≤ lo) :
    rRest xs rs (m + 1) a = rRest xs (rs ++ [(⟨lo - 2 - gap - size, lo - 2 - gap⟩ : Rng)]) m a2 := by
  have hl : (rg (rs ++ [(⟨lo - 2 - gap - size, lo - 2 - gap⟩ : Rng)]) ((rs ++ [(⟨lo - 2 - gap - size, lo - 2 - gap⟩ : Rng)]).length - 1)) = ⟨lo - 2 - gap - size, lo - 2 - gap⟩ := by
    simp [rg, List.getD]
  simp only [rRest, rdR, e, e2, hlo, hl]
  rw [if_pos h]
  cases rdR xs m (lo - 2 - gap - size) a2 with
  | none => rfl
  | some w => obtain ⟨rs', a4⟩ := w; simp

theorem rranges_spec (rb : Nat) (p : Option Addr) (b o c : Nat) (xs : List UInt8) (a : Nat) (R : HP) (hs : Sl p b o xs.length c) (hr : RdA B R b o xs) (hx : xs.length < 10000000000) (ha : a ≤ xs.length) :
    Fn Tryd.prog B 50 [ptr rb 0] (rr rb p c xs a false * R) (fun v H' => ∃ (q : Option Addr) (b' o' c' : Nat) (s' : List Value) (rs : List Rng) (a' : Nat) (bad' : Bool), v = .slice q rs.length c' ∧ Sl q b' o' rs.length c' ∧ rs.length * 2 + s'.length = c' * 2 ∧ H' = arr b' o' rs s' * (rr rb p c xs a' bad' * R) ∧ a' ≤ xs.length ∧ ((rdA xs a = some (rs, a') ∧ bad' = false) ∨ (rdA xs a = none ∧ bad' = true)) ∧ rs.length < 10000000000) := by
  refine fn_intro Tryd.func50 rfl rfl rfl ?_
  refine w_seq ?_
  refine w_region rfl ?_
  refine l_val (v_assign rfl) rfl ?_
  refine l_nil ?_
  refine a_normal ?_
  refine w_seq ?_
  refine w_region rfl ?_
  refine l_val (v_move rfl) rfl ?_
  refine l_eff (e_call rfl (rnumber_spec rb p b o c xs a false _ hs inferInstance hx (by omega))) rfl ?_
  rintro _ _ ⟨n11, a11, bad11, rfl, rfl, h11⟩
  have g11 := num_ok (by omega) h11
  refine l_val (v_assign rfl) rfl ?_
  refine l_nil ?_
  refine a_normal ?_
  refine w_seq ?_
  refine w_region rfl ?_
  refine l_val (v_move rfl) rfl ?_
  refine l_eff (e_call rfl (rnumber_spec rb p b o c xs a11 bad11 _ hs inferInstance hx (by omega))) rfl ?_
  rintro _ _ ⟨n13, a13, bad13, rfl, rfl, h13⟩
  have g13 := num_ok (by omega) h13
  refine l_val (v_assign rfl) rfl ?_
  refine l_nil ?_
  refine a_normal ?_
  refine w_seq ?_
  refine w_region rfl ?_
  refine l_val (v_move rfl) rfl ?_
  refine l_eff (e_call rfl (rnumber_spec rb p b o c xs a13 bad13 _ hs inferInstance hx (by omega))) rfl ?_
  rintro _ _ ⟨n15, a15, bad15, rfl, rfl, h15⟩
  have g15 := num_ok (by omega) h15
  refine l_val (v_assign rfl) rfl ?_
  refine l_nil ?_
  refine a_normal ?_
  refine w_seq ?_
  refine w_seq ?_
  refine w_region rfl ?_
  refine l_val (v_move rfl) rfl ?_
  refine l_val (v_nilCheck rfl) rfl ?_
  refine l_val (v_fieldAddr rfl) rfl ?_
  refine l_val (v_load rfl trivial) rfl ?_
  refine l_val (v_move rfl) rfl ?_
  refine l_caseB 20 rfl (fun hg1 => ?_) (fun hg1 => ?_)
  · skip
    have hbd := hg1
    refine l_gN rfl rfl rfl hg1 ?_
    refine l_gN rfl rfl rfl hg1 ?_
    refine l_gN rfl rfl rfl hg1 ?_
    refine l_val (v_pickY hg1 rfl rfl) rfl ?_
    refine l_nil ?_
    refine a_normal ?_
    refine w_condY rfl rfl ?_
    refine w_seq ?_
    refine w_region rfl ?_
    refine l_val (v_move rfl) rfl ?_
    refine l_val (v_nilCheck rfl) rfl ?_
    refine l_val (v_fieldAddr rfl) rfl ?_
    refine l_eff0 (e_store (v := .bool true) rfl rfl rfl trivial) ?_
    rintro _ _ ⟨rfl, rfl⟩
    refine l_nil ?_
    refine a_normal ?_
    refine w_seq ?_
    refine w_region rfl ?_
    refine l_val (v_assign rfl) rfl ?_
    refine l_nil ?_
    refine a_normal ?_
    refine w_ret ?_
    refine a_tret ?_
    first
    | (exact a_retD (ts := [2]) (arr z.2.2.2.2.1 z.2.2.2.2.2.1 z.1 z.2.2.2.2.2.2.2 * (rr rb p c xs z.2.2.1 false * R)) rfl rfl ⟨z.2.2.2.1, z.2.2.2.2.1, z.2.2.2.2.2.1, z.2.2.2.2.2.2.1, z.2.2.2.2.2.2.2, z.1, z.2.2.1, false, rfl, hzs, hzc, rfl, hza, .inl ⟨by rw [hinv, show n13 - z.2.1 = 0 by omega]; exact rRest_end, rfl⟩, by omega⟩)
    | exact a_retD (ts := [2]) (rr rb p c xs a49 true * R) rfl rfl ⟨none, 0, 0, 0, [], [], a49, true, rfl, ⟨.inl rfl, Nat.le_refl _⟩, rfl, by rw [arr_nil, HP.emp_mul], by omega, .inr ⟨by
        rw [hinv, show n13 - z.2.1 = (n13 - (z.2.1 + 1)) + 1 by omega]
        rcases h47 with ⟨e47, rfl⟩ | ⟨e47, _, _, rfl⟩
        · rcases h49 with ⟨e49, rfl⟩ | ⟨e49, _, _, rfl⟩
          · first | exact rRest_n3 rfl e47 e49 (by omega) | cases hb2
          · exact rRest_n2 e47 e49
        · exact rRest_n1 e47, rfl⟩, (by decide : 0 < 10000000000)⟩
    | exact a_retD (ts := [2]) (rr rb p c xs a15 true * R) rfl rfl ⟨none, 0, 0, 0, [], [], a15, true, rfl, ⟨.inl rfl, Nat.le_refl _⟩, rfl, by rw [arr_nil, HP.emp_mul], by omega, .inr ⟨by
        rcases h11 with ⟨e11, rfl⟩ | ⟨e11, _, _, rfl⟩
        · rcases h13 with ⟨e13, rfl⟩ | ⟨e13, _, _, rfl⟩
          · rcases h15 with ⟨e15, rfl⟩ | ⟨e15, _, _, rfl⟩
            · simp only [rdA, e11, e13, e15]
              first | (exact if_neg (by omega)) | cases hbd
            · simp only [rdA, e11, e13, e15]
          · simp only [rdA, e11, e13]
        · simp only [rdA, e11], rfl⟩, (by decide : 0 < 10000000000)⟩
  · skip
    have hbd := hg1
    refine l_gY rfl rfl rfl hg1 ?_
    refine l_val (v_move rfl) rfl ?_
    refine l_gY rfl rfl rfl hg1 ?_
    refine l_val (v_move rfl) rfl ?_
    refine l_gY rfl rfl rfl hg1 ?_
    refine l_val (v_gtr rfl rfl) rfl ?_
    refine l_val (v_pickN hg1 rfl rfl) rfl ?_
    refine l_nil ?_
    refine a_normal ?_
    refine w_condD rfl (fun hbig => ?_) (fun hbig => ?_)
    · skip
      refine w_seq ?_
      refine w_region rfl ?_
      refine l_val (v_move rfl) rfl ?_
      refine l_val (v_nilCheck rfl) rfl ?_
      refine l_val (v_fieldAddr rfl) rfl ?_
      refine l_eff0 (e_store (v := .bool true) rfl rfl rfl trivial) ?_
      rintro _ _ ⟨rfl, rfl⟩
      refine l_nil ?_
      refine a_normal ?_
      refine w_seq ?_
      refine w_region rfl ?_
      refine l_val (v_assign rfl) rfl ?_
      refine l_nil ?_
      refine a_normal ?_
      refine w_ret ?_
      refine a_tret ?_
      first
      | (exact a_retD (ts := [2]) (arr z.2.2.2.2.1 z.2.2.2.2.2.1 z.1 z.2.2.2.2.2.2.2 * (rr rb p c xs z.2.2.1 false * R)) rfl rfl ⟨z.2.2.2.1, z.2.2.2.2.1, z.2.2.2.2.2.1, z.2.2.2.2.2.2.1, z.2.2.2.2.2.2.2, z.1, z.2.2.1, false, rfl, hzs, hzc, rfl, hza, .inl ⟨by rw [hinv, show n13 - z.2.1 = 0 by omega]; exact rRest_end, rfl⟩, by omega⟩)
      | exact a_retD (ts := [2]) (rr rb p c xs a49 true * R) rfl rfl ⟨none, 0, 0, 0, [], [], a49, true, rfl, ⟨.inl rfl, Nat.le_refl _⟩, rfl, by rw [arr_nil, HP.emp_mul], by omega, .inr ⟨by
          rw [hinv, show n13 - z.2.1 = (n13 - (z.2.1 + 1)) + 1 by omega]
          rcases h47 with ⟨e47, rfl⟩ | ⟨e47, _, _, rfl⟩
          · rcases h49 with ⟨e49, rfl⟩ | ⟨e49, _, _, rfl⟩
            · first | exact rRest_n3 rfl e47 e49 (by omega) | cases hb2
            · exact rRest_n2 e47 e49
          · exact rRest_n1 e47, rfl⟩, (by decide : 0 < 10000000000)⟩
      | exact a_retD (ts := [2]) (rr rb p c xs a15 true * R) rfl rfl ⟨none, 0, 0, 0, [], [], a15, true, rfl, ⟨.inl rfl, Nat.le_refl _⟩, rfl, by rw [arr_nil, HP.emp_mul], by omega, .inr ⟨by
          rcases h11 with ⟨e11, rfl⟩ | ⟨e11, _, _, rfl⟩
          · rcases h13 with ⟨e13, rfl⟩ | ⟨e13, _, _, rfl⟩
            · rcases h15 with ⟨e15, rfl⟩ | ⟨e15, _, _, rfl⟩
              · simp only [rdA, e11, e13, e15]
                first | (exact if_neg (by omega)) | cases hbd
              · simp only [rdA, e11, e13, e15]
            · simp only [rdA, e11, e13]
          · simp only [rdA, e11], rfl⟩, (by decide : 0 < 10000000000)⟩
    · skip
      obtain ⟨e11, rfl⟩ : rdN xs a = some (n11, a11) ∧ bad11 = false := by
        rcases h11 with h | h
        · exact h
        · obtain ⟨_, _, _, rfl⟩ := h
          rcases h13 with ⟨_, rfl⟩ | ⟨_, _, _, rfl⟩ <;> rcases h15 with ⟨_, rfl⟩ | ⟨_, _, _, rfl⟩ <;> cases hbd
      obtain ⟨e13, rfl⟩ : rdN xs a11 = some (n13, a13) ∧ bad13 = false := by
        rcases h13 with h | h
        · exact h
        · obtain ⟨_, _, _, rfl⟩ := h
          rcases h15 with ⟨_, rfl⟩ | ⟨_, _, _, rfl⟩ <;> cases hbd
      obtain ⟨e15, rfl⟩ : rdN xs a13 = some (n15, a15) ∧ bad15 = false := by
        rcases h15 with h | h
        · exact h
        · obtain ⟨_, _, _, rfl⟩ := h; cases hbd
      have f15 := rdN_some e15
      refine w_skip ?_
      refine a_normal ?_
      refine w_seq ?_
      refine w_region rfl ?_
      refine l_val (v_move rfl) rfl ?_
      refine l_val (v_move rfl) rfl ?_
      refine l_val (v_subU rfl rfl (by omega)) rfl ?_
      refine l_val (v_move rfl) rfl ?_
      refine l_val (v_mkS (cs := [uN (n11 - n15), uN n11]) rfl rfl rfl (by simp [Value.oneCell'])) rfl ?_
      refine l_eff (e_buildSlice (cs := [uN (n11 - n15), uN n11]) rfl (by first | kernel_rfl | simp [Instr.fill, Value.cells]) rfl rfl) rfl ?_
      rintro _ _ ⟨b33, rfl, rfl⟩
      refine l_val (v_assign rfl) rfl ?_
      refine l_nil ?_
      refine a_normal ?_
      refine w_seq ?_
      refine w_seq ?_
      refine w_region rfl ?_
      refine l_val (v_assign (v := .int .u64 (0 : Nat)) rfl) rfl ?_
      refine l_nil ?_
      refine a_normal ?_
      refine w_block ?_
      refine w_heap (H' := arr b33 0 [(⟨n11 - n15, n11⟩ : Rng)] [] * (rr rb p c xs a15 false * R)) (by show _ = HP.pts b33 0 (flat [(⟨n11 - n15, n11⟩ : Rng)] ++ []) * _; rw [List.append_nil]; rfl) ?_
      refine w_loop (α := List Rng × Nat × Nat × Option Addr × Nat × Nat × Nat × List Value) (fun z => [(0, ptr rb 0), (4, uN n13), (6, .slice z.2.2.2.1 z.1.length z.2.2.2.2.2.2.1), (7, uN z.2.1)]) (fun z => arr z.2.2.2.2.1 z.2.2.2.2.2.1 z.1 z.2.2.2.2.2.2.2 * (rr rb p c xs z.2.2.1 false * R))
        (fun z => z.2.1 ≤ n13 ∧ z.2.2.1 ≤ xs.length ∧ 0 < z.1.length ∧ z.1.length ≤ z.2.2.1 ∧ Sl z.2.2.2.1 z.2.2.2.2.1 z.2.2.2.2.2.1 z.1.length z.2.2.2.2.2.2.1 ∧ z.1.length * 2 + z.2.2.2.2.2.2.2.length = z.2.2.2.2.2.2.1 * 2 ∧ (rg z.1 (z.1.length - 1)).lo ≤ 4611686018427387903 ∧ rdA xs a = rRest xs z.1 (n13 - z.2.1) z.2.2.1) (fun z => n13 - z.2.1)
        ([(⟨n11 - n15, n11⟩ : Rng)], 0, a15, some ⟨b33, 0, none⟩, b33, 0, 1, []) ⟨Nat.zero_le _, by show a15 ≤ _; omega, by simp, by show 1 ≤ a15; omega, ⟨.inr rfl, Nat.le_refl _⟩, rfl, by show n11 - n15 ≤ _; omega, rRest_begin e11 e13 e15 (by omega)⟩ (.cons rfl (.cons rfl (.cons rfl (.cons rfl .nil)))) rfl ?_
      rintro z ⟨hin, hza, hz0, hzl, hzs, hzc, hlo, hinv⟩
      dsimp only
      refine w_seq ?_
      refine w_seq ?_
      refine w_region rfl ?_
      refine l_val (v_move rfl) rfl ?_
      refine l_val (v_move rfl) rfl ?_
      refine l_val (v_lss rfl rfl) rfl ?_
      refine l_val (v_move rfl) rfl ?_
      refine l_case 37 rfl (fun hg2 => ?_) (fun hg2 => ?_)
      · skip
        have hlt := hg2
        refine l_gY rfl rfl rfl (decide_eq_true hg2) ?_
        refine l_val (v_move rfl) rfl ?_
        refine l_gY rfl rfl rfl (decide_eq_true hg2) ?_
        refine l_val (v_nilCheck rfl) rfl ?_
        refine l_gY rfl rfl rfl (decide_eq_true hg2) ?_
        refine l_val (v_fieldAddr rfl) rfl ?_
        refine l_gY rfl rfl rfl (decide_eq_true hg2) ?_
        refine l_val (v_load rfl trivial) rfl ?_
        refine l_gY rfl rfl rfl (decide_eq_true hg2) ?_
        refine l_val (v_not rfl) rfl ?_
        refine l_val (v_pickY (decide_eq_true hg2) rfl rfl) rfl ?_
        refine l_nil ?_
        refine a_normal ?_
        refine w_cond rfl (fun hc => ?_) (fun hc => ?_)
        rotate_left
        · cases hc
        refine w_skip ?_
        refine a_normal ?_
        refine w_seq ?_
        refine w_block ?_
        refine w_seq ?_
        refine w_region rfl ?_
        refine l_val (v_move rfl) rfl ?_
        refine l_heap (H' := rr rb p c xs z.2.2.1 false * (arr z.2.2.2.2.1 z.2.2.2.2.2.1 z.1 z.2.2.2.2.2.2.2 * R)) (HP.left_comm _ _ _) ?_
        refine l_eff (e_call rfl (rnumber_spec rb p b o c xs z.2.2.1 false _ hs inferInstance hx (by omega))) rfl ?_
        rintro _ _ ⟨n47, a47, bad47, rfl, rfl, h47⟩
        have g47 := num_ok (by omega) h47
        refine l_val (v_assign rfl) rfl ?_
        refine l_nil ?_
        refine a_normal ?_
        refine w_seq ?_
        refine w_region rfl ?_
        refine l_val (v_move rfl) rfl ?_
        refine l_eff (e_call rfl (rnumber_spec rb p b o c xs a47 bad47 _ hs inferInstance hx (by omega))) rfl ?_
        rintro _ _ ⟨n49, a49, bad49, rfl, rfl, h49⟩
        have g49 := num_ok (by omega) h49
        refine l_val (v_assign rfl) rfl ?_
        refine l_nil ?_
        refine a_normal ?_
        refine w_seq ?_
        refine w_region rfl ?_
        refine l_val (v_move rfl) rfl ?_
        refine l_val (v_move rfl) rfl ?_
        refine l_val (v_lenS rfl) rfl ?_
        refine l_val (v_subI (j := 1) rfl rfl (by omega)) rfl ?_
        refine l_val (v_indexAddrR (b := z.2.2.2.2.1) (o := z.2.2.2.2.2.1) rfl rfl hzs (by omega)) rfl ?_
        refine l_val (v_fieldAddr rfl) rfl ?_
        refine l_val (v_loadLo (i := z.1.length - 1) (xs := z.1) rfl inferInstance (by omega)) rfl ?_
        refine l_val (v_assign rfl) rfl ?_
        refine l_nil ?_
        refine a_normal ?_
        refine w_seq ?_
        refine w_seq ?_
        refine w_region rfl ?_
        refine l_val (v_move rfl) rfl ?_
        refine l_val (v_nilCheck rfl) rfl ?_
        refine l_val (v_fieldAddr rfl) rfl ?_
        refine l_val (v_load rfl trivial) rfl ?_
        refine l_val (v_move rfl) rfl ?_
        refine l_caseB 61 rfl (fun hg3 => ?_) (fun hg3 => ?_)
        · skip
          have hb2 := hg3
          refine l_gN rfl rfl rfl hg3 ?_
          refine l_gN rfl rfl rfl hg3 ?_
          refine l_val (v_pickY hg3 rfl rfl) rfl ?_
          refine l_val (v_move rfl) rfl ?_
          refine l_gN rfl rfl rfl rfl ?_
          refine l_gN rfl rfl rfl rfl ?_
          refine l_gN rfl rfl rfl rfl ?_
          refine l_gN rfl rfl rfl rfl ?_
          refine l_val (v_pickY rfl rfl rfl) rfl ?_
          refine l_val (v_move rfl) rfl ?_
          refine l_gN rfl rfl rfl rfl ?_
          refine l_gN rfl rfl rfl rfl ?_
          refine l_gN rfl rfl rfl rfl ?_
          refine l_gN rfl rfl rfl rfl ?_
          refine l_gN rfl rfl rfl rfl ?_
          refine l_gN rfl rfl rfl rfl ?_
          refine l_val (v_pickY rfl rfl rfl) rfl ?_
          refine l_nil ?_
          refine a_normal ?_
          refine w_condY rfl rfl ?_
          refine w_seq ?_
          refine w_region rfl ?_
          refine l_val (v_move rfl) rfl ?_
          refine l_val (v_nilCheck rfl) rfl ?_
          refine l_val (v_fieldAddr rfl) rfl ?_
          refine l_eff0 (e_store (v := .bool true) rfl rfl rfl trivial) ?_
          rintro _ _ ⟨rfl, rfl⟩
          refine l_nil ?_
          refine a_normal ?_
          refine w_seq ?_
          refine w_region rfl ?_
          refine l_val (v_assign rfl) rfl ?_
          refine l_nil ?_
          refine a_normal ?_
          refine w_ret ?_
          refine a_tret ?_
          refine a_bret ?_
          refine a_tret ?_
          refine a_tret ?_
          refine a_bret ?_
          refine a_tret ?_
          first
          | (exact a_retD (ts := [2]) (arr z.2.2.2.2.1 z.2.2.2.2.2.1 z.1 z.2.2.2.2.2.2.2 * (rr rb p c xs z.2.2.1 false * R)) rfl rfl ⟨z.2.2.2.1, z.2.2.2.2.1, z.2.2.2.2.2.1, z.2.2.2.2.2.2.1, z.2.2.2.2.2.2.2, z.1, z.2.2.1, false, rfl, hzs, hzc, rfl, hza, .inl ⟨by rw [hinv, show n13 - z.2.1 = 0 by omega]; exact rRest_end, rfl⟩, by omega⟩)
          | exact a_retD (ts := [2]) (rr rb p c xs a49 true * R) rfl rfl ⟨none, 0, 0, 0, [], [], a49, true, rfl, ⟨.inl rfl, Nat.le_refl _⟩, rfl, by rw [arr_nil, HP.emp_mul], by omega, .inr ⟨by
              rw [hinv, show n13 - z.2.1 = (n13 - (z.2.1 + 1)) + 1 by omega]
              rcases h47 with ⟨e47, rfl⟩ | ⟨e47, _, _, rfl⟩
              · rcases h49 with ⟨e49, rfl⟩ | ⟨e49, _, _, rfl⟩
                · first | exact rRest_n3 rfl e47 e49 (by omega) | cases hb2
                · exact rRest_n2 e47 e49
              · exact rRest_n1 e47, rfl⟩, (by decide : 0 < 10000000000)⟩
          | exact a_retD (ts := [2]) (rr rb p c xs a15 true * R) rfl rfl ⟨none, 0, 0, 0, [], [], a15, true, rfl, ⟨.inl rfl, Nat.le_refl _⟩, rfl, by rw [arr_nil, HP.emp_mul], by omega, .inr ⟨by
              rcases h11 with ⟨e11, rfl⟩ | ⟨e11, _, _, rfl⟩
              · rcases h13 with ⟨e13, rfl⟩ | ⟨e13, _, _, rfl⟩
                · rcases h15 with ⟨e15, rfl⟩ | ⟨e15, _, _, rfl⟩
                  · simp only [rdA, e11, e13, e15]
                    first | (exact if_neg (by omega)) | cases hbd
                  · simp only [rdA, e11, e13, e15]
                · simp only [rdA, e11, e13]
              · simp only [rdA, e11], rfl⟩, (by decide : 0 < 10000000000)⟩
        · skip
          have hb2 := hg3
          refine l_gY rfl rfl rfl hg3 ?_
          refine l_val (v_move rfl) rfl ?_
          refine l_gY rfl rfl rfl hg3 ?_
          refine l_val (v_lss (j := 2) rfl rfl) rfl ?_
          refine l_val (v_pickN hg3 rfl rfl) rfl ?_
          refine l_val (v_move rfl) rfl ?_
          refine l_case 65 rfl (fun hg4 => ?_) (fun hg4 => ?_)
          · skip
            have hl2 := hg4
            refine l_gN rfl rfl rfl (decide_eq_true hg4) ?_
            refine l_gN rfl rfl rfl (decide_eq_true hg4) ?_
            refine l_gN rfl rfl rfl (decide_eq_true hg4) ?_
            refine l_gN rfl rfl rfl (decide_eq_true hg4) ?_
            refine l_val (v_pickY (decide_eq_true hg4) rfl rfl) rfl ?_
            refine l_val (v_move rfl) rfl ?_
            refine l_gN rfl rfl rfl rfl ?_
            refine l_gN rfl rfl rfl rfl ?_
            refine l_gN rfl rfl rfl rfl ?_
            refine l_gN rfl rfl rfl rfl ?_
            refine l_gN rfl rfl rfl rfl ?_
            refine l_gN rfl rfl rfl rfl ?_
            refine l_val (v_pickY rfl rfl rfl) rfl ?_
            refine l_nil ?_
            refine a_normal ?_
            refine w_condY rfl rfl ?_
            refine w_seq ?_
            refine w_region rfl ?_
            refine l_val (v_move rfl) rfl ?_
            refine l_val (v_nilCheck rfl) rfl ?_
            refine l_val (v_fieldAddr rfl) rfl ?_
            refine l_eff0 (e_store (v := .bool true) rfl rfl rfl trivial) ?_
            rintro _ _ ⟨rfl, rfl⟩
            refine l_nil ?_
            refine a_normal ?_
            refine w_seq ?_
            refine w_region rfl ?_
            refine l_val (v_assign rfl) rfl ?_
            refine l_nil ?_
            refine a_normal ?_
            refine w_ret ?_
            refine a_tret ?_
            refine a_bret ?_
            refine a_tret ?_
            refine a_tret ?_
            refine a_bret ?_
            refine a_tret ?_
            first
            | (exact a_retD (ts := [2]) (arr z.2.2.2.2.1 z.2.2.2.2.2.1 z.1 z.2.2.2.2.2.2.2 * (rr rb p c xs z.2.2.1 false * R)) rfl rfl ⟨z.2.2.2.1, z.2.2.2.2.1, z.2.2.2.2.2.1, z.2.2.2.2.2.2.1, z.2.2.2.2.2.2.2, z.1, z.2.2.1, false, rfl, hzs, hzc, rfl, hza, .inl ⟨by rw [hinv, show n13 - z.2.1 = 0 by omega]; exact rRest_end, rfl⟩, by omega⟩)
            | exact a_retD (ts := [2]) (rr rb p c xs a49 true * R) rfl rfl ⟨none, 0, 0, 0, [], [], a49, true, rfl, ⟨.inl rfl, Nat.le_refl _⟩, rfl, by rw [arr_nil, HP.emp_mul], by omega, .inr ⟨by
                rw [hinv, show n13 - z.2.1 = (n13 - (z.2.1 + 1)) + 1 by omega]
                rcases h47 with ⟨e47, rfl⟩ | ⟨e47, _, _, rfl⟩
                · rcases h49 with ⟨e49, rfl⟩ | ⟨e49, _, _, rfl⟩
                  · first | exact rRest_n3 rfl e47 e49 (by omega) | cases hb2
                  · exact rRest_n2 e47 e49
                · exact rRest_n1 e47, rfl⟩, (by decide : 0 < 10000000000)⟩
            | exact a_retD (ts := [2]) (rr rb p c xs a15 true * R) rfl rfl ⟨none, 0, 0, 0, [], [], a15, true, rfl, ⟨.inl rfl, Nat.le_refl _⟩, rfl, by rw [arr_nil, HP.emp_mul], by omega, .inr ⟨by
                rcases h11 with ⟨e11, rfl⟩ | ⟨e11, _, _, rfl⟩
                · rcases h13 with ⟨e13, rfl⟩ | ⟨e13, _, _, rfl⟩
                  · rcases h15 with ⟨e15, rfl⟩ | ⟨e15, _, _, rfl⟩
                    · simp only [rdA, e11, e13, e15]
                      first | (exact if_neg (by omega)) | cases hbd
                    · simp only [rdA, e11, e13, e15]
                  · simp only [rdA, e11, e13]
                · simp only [rdA, e11], rfl⟩, (by decide : 0 < 10000000000)⟩
          · skip
            have hl2 := hg4
            refine l_gY rfl rfl rfl (decide_eq_false hg4) ?_
            refine l_val (v_move rfl) rfl ?_
            refine l_gY rfl rfl rfl (decide_eq_false hg4) ?_
            refine l_val (v_move rfl) rfl ?_
            refine l_gY rfl rfl rfl (decide_eq_false hg4) ?_
            refine l_val (v_subU (j := 2) rfl rfl (by omega)) rfl ?_
            refine l_gY rfl rfl rfl (decide_eq_false hg4) ?_
            refine l_val (v_gtr rfl rfl) rfl ?_
            refine l_val (v_pickN (decide_eq_false hg4) rfl rfl) rfl ?_
            refine l_val (v_move rfl) rfl ?_
            refine l_case 71 rfl (fun hg5 => ?_) (fun hg5 => ?_)
            · skip
              have hg3 := hg5
              refine l_gN rfl rfl rfl (decide_eq_true hg5) ?_
              refine l_gN rfl rfl rfl (decide_eq_true hg5) ?_
              refine l_gN rfl rfl rfl (decide_eq_true hg5) ?_
              refine l_gN rfl rfl rfl (decide_eq_true hg5) ?_
              refine l_gN rfl rfl rfl (decide_eq_true hg5) ?_
              refine l_gN rfl rfl rfl (decide_eq_true hg5) ?_
              refine l_val (v_pickY (decide_eq_true hg5) rfl rfl) rfl ?_
              refine l_nil ?_
              refine a_normal ?_
              refine w_condY rfl rfl ?_
              refine w_seq ?_
              refine w_region rfl ?_
              refine l_val (v_move rfl) rfl ?_
              refine l_val (v_nilCheck rfl) rfl ?_
              refine l_val (v_fieldAddr rfl) rfl ?_
              refine l_eff0 (e_store (v := .bool true) rfl rfl rfl trivial) ?_
              rintro _ _ ⟨rfl, rfl⟩
              refine l_nil ?_
              refine a_normal ?_
              refine w_seq ?_
              refine w_region rfl ?_
              refine l_val (v_assign rfl) rfl ?_
              refine l_nil ?_
              refine a_normal ?_
              refine w_ret ?_
              refine a_tret ?_
              refine a_bret ?_
              refine a_tret ?_
              refine a_tret ?_
              refine a_bret ?_
              refine a_tret ?_
              first
              | (exact a_retD (ts := [2]) (arr z.2.2.2.2.1 z.2.2.2.2.2.1 z.1 z.2.2.2.2.2.2.2 * (rr rb p c xs z.2.2.1 false * R)) rfl rfl ⟨z.2.2.2.1, z.2.2.2.2.1, z.2.2.2.2.2.1, z.2.2.2.2.2.2.1, z.2.2.2.2.2.2.2, z.1, z.2.2.1, false, rfl, hzs, hzc, rfl, hza, .inl ⟨by rw [hinv, show n13 - z.2.1 = 0 by omega]; exact rRest_end, rfl⟩, by omega⟩)
              | exact a_retD (ts := [2]) (rr rb p c xs a49 true * R) rfl rfl ⟨none, 0, 0, 0, [], [], a49, true, rfl, ⟨.inl rfl, Nat.le_refl _⟩, rfl, by rw [arr_nil, HP.emp_mul], by omega, .inr ⟨by
                  rw [hinv, show n13 - z.2.1 = (n13 - (z.2.1 + 1)) + 1 by omega]
                  rcases h47 with ⟨e47, rfl⟩ | ⟨e47, _, _, rfl⟩
                  · rcases h49 with ⟨e49, rfl⟩ | ⟨e49, _, _, rfl⟩
                    · first | exact rRest_n3 rfl e47 e49 (by omega) | cases hb2
                    · exact rRest_n2 e47 e49
                  · exact rRest_n1 e47, rfl⟩, (by decide : 0 < 10000000000)⟩
              | exact a_retD (ts := [2]) (rr rb p c xs a15 true * R) rfl rfl ⟨none, 0, 0, 0, [], [], a15, true, rfl, ⟨.inl rfl, Nat.le_refl _⟩, rfl, by rw [arr_nil, HP.emp_mul], by omega, .inr ⟨by
                  rcases h11 with ⟨e11, rfl⟩ | ⟨e11, _, _, rfl⟩
                  · rcases h13 with ⟨e13, rfl⟩ | ⟨e13, _, _, rfl⟩
                    · rcases h15 with ⟨e15, rfl⟩ | ⟨e15, _, _, rfl⟩
                      · simp only [rdA, e11, e13, e15]
                        first | (exact if_neg (by omega)) | cases hbd
                      · simp only [rdA, e11, e13, e15]
                    · simp only [rdA, e11, e13]
                  · simp only [rdA, e11], rfl⟩, (by decide : 0 < 10000000000)⟩
            · skip
              have hg3 := hg5
              refine l_gY rfl rfl rfl (decide_eq_false hg5) ?_
              refine l_val (v_move rfl) rfl ?_
              refine l_gY rfl rfl rfl (decide_eq_false hg5) ?_
              refine l_val (v_move rfl) rfl ?_
              refine l_gY rfl rfl rfl (decide_eq_false hg5) ?_
              refine l_val (v_subU (j := 2) rfl rfl (by omega)) rfl ?_
              refine l_gY rfl rfl rfl (decide_eq_false hg5) ?_
              refine l_val (v_move rfl) rfl ?_
              refine l_gY rfl rfl rfl (decide_eq_false hg5) ?_
              refine l_val (v_subU rfl rfl (by omega)) rfl ?_
              refine l_gY rfl rfl rfl (decide_eq_false hg5) ?_
              refine l_val (v_gtr rfl rfl) rfl ?_
              refine l_val (v_pickN (decide_eq_false hg5) rfl rfl) rfl ?_
              refine l_nil ?_
              refine a_normal ?_
              refine w_condD rfl (fun hb78 => ?_) (fun hb78 => ?_)
              · skip
                refine w_seq ?_
                refine w_region rfl ?_
                refine l_val (v_move rfl) rfl ?_
                refine l_val (v_nilCheck rfl) rfl ?_
                refine l_val (v_fieldAddr rfl) rfl ?_
                refine l_eff0 (e_store (v := .bool true) rfl rfl rfl trivial) ?_
                rintro _ _ ⟨rfl, rfl⟩
                refine l_nil ?_
                refine a_normal ?_
                refine w_seq ?_
                refine w_region rfl ?_
                refine l_val (v_assign rfl) rfl ?_
                refine l_nil ?_
                refine a_normal ?_
                refine w_ret ?_
                refine a_tret ?_
                refine a_bret ?_
                refine a_tret ?_
                refine a_tret ?_
                refine a_bret ?_
                refine a_tret ?_
                first
                | (exact a_retD (ts := [2]) (arr z.2.2.2.2.1 z.2.2.2.2.2.1 z.1 z.2.2.2.2.2.2.2 * (rr rb p c xs z.2.2.1 false * R)) rfl rfl ⟨z.2.2.2.1, z.2.2.2.2.1, z.2.2.2.2.2.1, z.2.2.2.2.2.2.1, z.2.2.2.2.2.2.2, z.1, z.2.2.1, false, rfl, hzs, hzc, rfl, hza, .inl ⟨by rw [hinv, show n13 - z.2.1 = 0 by omega]; exact rRest_end, rfl⟩, by omega⟩)
                | exact a_retD (ts := [2]) (rr rb p c xs a49 true * R) rfl rfl ⟨none, 0, 0, 0, [], [], a49, true, rfl, ⟨.inl rfl, Nat.le_refl _⟩, rfl, by rw [arr_nil, HP.emp_mul], by omega, .inr ⟨by
                    rw [hinv, show n13 - z.2.1 = (n13 - (z.2.1 + 1)) + 1 by omega]
                    rcases h47 with ⟨e47, rfl⟩ | ⟨e47, _, _, rfl⟩
                    · rcases h49 with ⟨e49, rfl⟩ | ⟨e49, _, _, rfl⟩
                      · first | exact rRest_n3 rfl e47 e49 (by omega) | cases hb2
                      · exact rRest_n2 e47 e49
                    · exact rRest_n1 e47, rfl⟩, (by decide : 0 < 10000000000)⟩
                | exact a_retD (ts := [2]) (rr rb p c xs a15 true * R) rfl rfl ⟨none, 0, 0, 0, [], [], a15, true, rfl, ⟨.inl rfl, Nat.le_refl _⟩, rfl, by rw [arr_nil, HP.emp_mul], by omega, .inr ⟨by
                    rcases h11 with ⟨e11, rfl⟩ | ⟨e11, _, _, rfl⟩
                    · rcases h13 with ⟨e13, rfl⟩ | ⟨e13, _, _, rfl⟩
                      · rcases h15 with ⟨e15, rfl⟩ | ⟨e15, _, _, rfl⟩
                        · simp only [rdA, e11, e13, e15]
                          first | (exact if_neg (by omega)) | cases hbd
                        · simp only [rdA, e11, e13, e15]
                      · simp only [rdA, e11, e13]
                    · simp only [rdA, e11], rfl⟩, (by decide : 0 < 10000000000)⟩
              · skip
                obtain ⟨e47, rfl⟩ : rdN xs z.2.2.1 = some (n47, a47) ∧ bad47 = false := by
                  rcases h47 with h | h
                  · exact h
                  · obtain ⟨_, _, _, rfl⟩ := h
                    rcases h49 with ⟨_, rfl⟩ | ⟨_, _, _, rfl⟩ <;> cases hb2
                obtain ⟨e49, rfl⟩ : rdN xs a47 = some (n49, a49) ∧ bad49 = false := by
                  rcases h49 with h | h
                  · exact h
                  · obtain ⟨_, _, _, rfl⟩ := h; cases hb2
                have f49 := rdN_some e49
                have f47 := rdN_some e47
                refine w_skip ?_
                refine a_normal ?_
                refine w_region rfl ?_
                refine l_val (v_move rfl) rfl ?_
                refine l_val (v_move rfl) rfl ?_
                refine l_val (v_subU (j := 2) rfl rfl (by omega)) rfl ?_
                refine l_val (v_move rfl) rfl ?_
                refine l_val (v_subU rfl rfl (by omega)) rfl ?_
                refine l_val (v_move rfl) rfl ?_
                refine l_val (v_subU rfl rfl (by omega)) rfl ?_
                refine l_val (v_move rfl) rfl ?_
                refine l_val (v_subU (j := 2) rfl rfl (by omega)) rfl ?_
                refine l_val (v_move rfl) rfl ?_
                refine l_val (v_subU rfl rfl (by omega)) rfl ?_
                refine l_val (v_mkS (cs := Lay.enc (⟨(rg z.1 (z.1.length - 1)).lo - 2 - n47 - n49, (rg z.1 (z.1.length - 1)).lo - 2 - n47⟩ : Rng)) rfl rfl rfl (Lay.one (⟨(rg z.1 (z.1.length - 1)).lo - 2 - n47 - n49, (rg z.1 (z.1.length - 1)).lo - 2 - n47⟩ : Rng))) rfl ?_
                refine l_eff (e_buildSlice (cs := Lay.enc (⟨(rg z.1 (z.1.length - 1)).lo - 2 - n47 - n49, (rg z.1 (z.1.length - 1)).lo - 2 - n47⟩ : Rng)) rfl (by first | kernel_rfl | simp [Instr.fill, Value.cells]) rfl rfl) rfl ?_
                rintro _ _ ⟨b94, rfl, rfl⟩
                refine l_heap (H' := arr z.2.2.2.2.1 z.2.2.2.2.2.1 z.1 z.2.2.2.2.2.2.2 * (HP.pts b94 0 (flat [(⟨(rg z.1 (z.1.length - 1)).lo - 2 - n47 - n49, (rg z.1 (z.1.length - 1)).lo - 2 - n47⟩ : Rng)]) * (rr rb p c xs a49 false * R))) (by show HP.pts b94 0 (flat [(⟨(rg z.1 (z.1.length - 1)).lo - 2 - n47 - n49, (rg z.1 (z.1.length - 1)).lo - 2 - n47⟩ : Rng)]) * _ = _; ac_rfl) ?_
                refine l_eff (e_append (ys := [(⟨(rg z.1 (z.1.length - 1)).lo - 2 - n47 - n49, (rg z.1 (z.1.length - 1)).lo - 2 - n47⟩ : Rng)]) (bb := b94) (oo := 0) (cc := 1) rfl hzs hzc rfl ⟨.inr rfl, Nat.le_refl _⟩ inferInstance rfl (by simp only [List.length_singleton]; omega) (by omega)) rfl ?_
                rintro _ _ ⟨p95, b95, o95, c95, s95, rfl, hs95, hc95, rfl⟩
                refine l_val (v_assign rfl) rfl ?_
                refine l_nil ?_
                refine a_bnormal ?_
                refine a_normal ?_
                refine w_region rfl ?_
                refine l_val (v_move rfl) rfl ?_
                refine l_val (v_addU (j := 1) rfl rfl (by omega)) rfl ?_
                refine l_val (v_assign rfl) rfl ?_
                refine l_nil ?_
                refine a_ent (arr b95 o95 (z.1 ++ [(⟨(rg z.1 (z.1.length - 1)).lo - 2 - n47 - n49, (rg z.1 (z.1.length - 1)).lo - 2 - n47⟩ : Rng)]) s95 * (rr rb p c xs a49 false * R)) (a_loop (z.1 ++ [(⟨(rg z.1 (z.1.length - 1)).lo - 2 - n47 - n49, (rg z.1 (z.1.length - 1)).lo - 2 - n47⟩ : Rng)], z.2.1 + 1, a49, p95, b95, o95, c95, s95) ⟨by show z.2.1 + 1 ≤ n13; omega, by show a49 ≤ _; omega, by show 0 < (z.1 ++ [_]).length; simp, by show (z.1 ++ [_]).length ≤ a49; rw [List.length_append, List.length_singleton]; omega, hs95, hc95, by show (rg (z.1 ++ [(⟨(rg z.1 (z.1.length - 1)).lo - 2 - n47 - n49, (rg z.1 (z.1.length - 1)).lo - 2 - n47⟩ : Rng)]) ((z.1 ++ [(⟨(rg z.1 (z.1.length - 1)).lo - 2 - n47 - n49, (rg z.1 (z.1.length - 1)).lo - 2 - n47⟩ : Rng)]).length - 1)).lo ≤ _; simp [rg, List.getD]; simp [rg, List.getD] at hlo; omega, by rw [hinv, show n13 - z.2.1 = (n13 - (z.2.1 + 1)) + 1 by omega]; exact rRest_step rfl e47 e49 (by omega)⟩ (by show n13 - (z.2.1 + 1) < n13 - z.2.1; omega) (.cons rfl (.cons rfl (.cons rfl (.cons rfl .nil)))) rfl)
      · skip
        have hlt := hg2
        refine l_gN rfl rfl rfl (decide_eq_false hg2) ?_
        refine l_gN rfl rfl rfl (decide_eq_false hg2) ?_
        refine l_gN rfl rfl rfl (decide_eq_false hg2) ?_
        refine l_gN rfl rfl rfl (decide_eq_false hg2) ?_
        refine l_gN rfl rfl rfl (decide_eq_false hg2) ?_
        refine l_val (v_pickN (decide_eq_false hg2) rfl rfl) rfl ?_
        refine l_nil ?_
        refine a_normal ?_
        refine w_condN rfl rfl ?_
        refine w_exit ?_
        refine a_texit ?_
        refine a_texit ?_
        refine a_bexit ?_
        refine a_normal ?_
        refine w_seq ?_
        refine w_region rfl ?_
        refine l_val (v_move rfl) rfl ?_
        refine l_val (v_assign rfl) rfl ?_
        refine l_nil ?_
        refine a_normal ?_
        refine w_ret ?_
        first
        | (exact a_retD (ts := [2]) (arr z.2.2.2.2.1 z.2.2.2.2.2.1 z.1 z.2.2.2.2.2.2.2 * (rr rb p c xs z.2.2.1 false * R)) rfl rfl ⟨z.2.2.2.1, z.2.2.2.2.1, z.2.2.2.2.2.1, z.2.2.2.2.2.2.1, z.2.2.2.2.2.2.2, z.1, z.2.2.1, false, rfl, hzs, hzc, rfl, hza, .inl ⟨by rw [hinv, show n13 - z.2.1 = 0 by omega]; exact rRest_end, rfl⟩, by omega⟩)
        | exact a_retD (ts := [2]) (rr rb p c xs a49 true * R) rfl rfl ⟨none, 0, 0, 0, [], [], a49, true, rfl, ⟨.inl rfl, Nat.le_refl _⟩, rfl, by rw [arr_nil, HP.emp_mul], by omega, .inr ⟨by
            rw [hinv, show n13 - z.2.1 = (n13 - (z.2.1 + 1)) + 1 by omega]
            rcases h47 with ⟨e47, rfl⟩ | ⟨e47, _, _, rfl⟩
            · rcases h49 with ⟨e49, rfl⟩ | ⟨e49, _, _, rfl⟩
              · first | exact rRest_n3 rfl e47 e49 (by omega) | cases hb2
              · exact rRest_n2 e47 e49
            · exact rRest_n1 e47, rfl⟩, (by decide : 0 < 10000000000)⟩
        | exact a_retD (ts := [2]) (rr rb p c xs a15 true * R) rfl rfl ⟨none, 0, 0, 0, [], [], a15, true, rfl, ⟨.inl rfl, Nat.le_refl _⟩, rfl, by rw [arr_nil, HP.emp_mul], by omega, .inr ⟨by
            rcases h11 with ⟨e11, rfl⟩ | ⟨e11, _, _, rfl⟩
            · rcases h13 with ⟨e13, rfl⟩ | ⟨e13, _, _, rfl⟩
              · rcases h15 with ⟨e15, rfl⟩ | ⟨e15, _, _, rfl⟩
                · simp only [rdA, e11, e13, e15]
                  first | (exact if_neg (by omega)) | cases hbd
                · simp only [rdA, e11, e13, e15]
              · simp only [rdA, e11, e13]
            · simp only [rdA, e11], rfl⟩, (by decide : 0 < 10000000000)⟩

/-- what has been read of a frame -/
def FrP (xs : List UInt8) (a : Nat) (r : RF) (a' : Nat) (bad' : Bool) : Prop :=
  r.ok ∧ r.own ∧ r.f.ranges.length < 10000000000 ∧ r.f.data.size < 100000000000 ∧ a' ≤ xs.length ∧ a + 1 ≤ xs.length ∧ ((rdK xs (kindOf (xs.getD a 0)) (decide (xs.getD a 0 = 9)) (a + 1) = some (r.f, a') ∧ bad' = false) ∨ (rdK xs (kindOf (xs.getD a 0)) (decide (xs.getD a 0 = 9)) (a + 1) = none ∧ bad' = true))
theorem frp0 {xs : List UInt8} {a : Nat} {r : RF} {a' : Nat} {bad' : Bool} (h1 : r.f.ranges = []) (h2 : r.c = 0) (h3 : r.s = []) (h4 : r.f.data.size < 100000000000) (h5 : a' ≤ xs.length) (h6 : a + 1 ≤ xs.length)
    (h : (rdK xs (kindOf (xs.getD a 0)) (decide (xs.getD a 0 = 9)) (a + 1) = some (r.f, a') ∧ bad' = false) ∨ (rdK xs (kindOf (xs.getD a 0)) (decide (xs.getD a 0 = 9)) (a + 1) = none ∧ bad' = true)) : FrP xs a r a' bad' :=
  ⟨(own0 h1 h2 h3).1, (own0 h1 h2 h3).2.1, by rw [h1]; exact (by decide : 0 < 10000000000), h4, h5, h6, h⟩
theorem t9 {xs : List UInt8} {a : Nat} (h : (xs.getD a 0).toNat = 9) : decide (xs.getD a 0 = 9) = true := decide_eq_true (UInt8.toNat_inj.1 h)
theorem t9n {xs : List UInt8} {a : Nat} (h : (xs.getD a 0).toNat ≠ 9) : decide (xs.getD a 0 = 9) = false := decide_eq_false (fun e => h (by rw [e]; rfl))
theorem kO {xs : List UInt8} {a : Nat} (k : Nat) (h : kindOf (xs.getD a 0) = k) : kindOf (xs.getD a 0) = k := h

theorem rframe_spec (rb : Nat) (p : Option Addr) (b o c : Nat) (xs : List UInt8) (a : Nat) (R : HP) (hs : Sl p b o xs.length c) (hr : RdA B R b o xs) (hx : xs.length < 10000000000) (hlt : a < xs.length) :
    Fn Tryd.prog B 35 [ptr rb 0] (rr rb p c xs a false * R) (fun v H' => ∃ r a' bad', v = .agg (encRF r).toArray ∧ r.ok ∧ r.own ∧ Mod r ∧ a' ≤ xs.length ∧ H' = rr rb p c xs a' bad' * (OwnR r * R) ∧ ((rdF xs a = some (r.f, a') ∧ bad' = false) ∨ (rdF xs a = none ∧ bad' = true))) := by
  refine fn_intro Tryd.func35 rfl rfl rfl ?_
  refine w_seq ?_
  refine w_region rfl ?_
  refine l_eff (e_alloc (l := [.int .i64 0, .int .i64 0, .int .u64 0, .int .u64 0, .bool false, .string ⟨#[]⟩, .slice none 0 0]) rfl) rfl ?_
  rintro _ _ ⟨b2, rfl, rfl⟩
  refine l_nil ?_
  refine a_normal ?_
  refine w_seq ?_
  refine w_anyH 11 11 mixed rfl (by kernel_rfl) ?_
  refine s_take 0 rfl (by kernel_rfl) rfl (v_move rfl) ?_
  refine s_take 1 rfl (by kernel_rfl) rfl (v_nilCheck rfl) ?_
  refine s_take 2 rfl (by kernel_rfl) rfl (v_fieldAddr rfl) ?_
  refine s_take 3 rfl (by kernel_rfl) rfl (v_load rfl trivial) ?_
  refine s_take 4 rfl (by kernel_rfl) rfl (v_move rfl) ?_
  refine s_take 5 rfl (by kernel_rfl) rfl (v_nilCheck rfl) ?_
  refine s_take 6 rfl (by kernel_rfl) rfl (v_fieldAddr rfl) ?_
  refine s_take 7 rfl (by kernel_rfl) rfl (v_load rfl trivial) ?_
  refine s_take 8 rfl (by kernel_rfl) rfl (v_indexAddrR (i := a) (b := b) (o := o) rfl rfl hs hlt) ?_
  refine s_take 9 rfl (by kernel_rfl) rfl (v_loadB (i := a) (xs := xs) rfl inferInstance hlt) ?_
  refine s_take 10 rfl (by kernel_rfl) rfl (v_assign rfl) ?_
  refine s_done (by kernel_rfl) ?_
  refine a_normal ?_
  refine w_seq ?_
  refine w_region rfl ?_
  refine l_val (v_move rfl) rfl ?_
  refine l_val (v_nilCheck rfl) rfl ?_
  refine l_val (v_fieldAddr rfl) rfl ?_
  refine l_val (v_load rfl trivial) rfl ?_
  refine l_val (v_addI (j := 1) rfl rfl (by omega)) rfl ?_
  refine l_val (v_nilCheck rfl) rfl ?_
  refine l_val (v_fieldAddr rfl) rfl ?_
  refine l_eff0 (e_store rfl rfl rfl (by first | trivial | omega)) ?_
  rintro _ _ ⟨rfl, rfl⟩
  refine l_nil ?_
  refine a_normal ?_
  refine w_seq ?_
  refine w_region rfl ?_
  refine l_val (v_mkS (cs := encRF (r0 0 false)) rfl rfl rfl (Lay.one (r0 0 false))) rfl ?_
  refine l_eff (e_alloc (l := [.int .i64 0, .int .i64 0, .int .u64 0, .int .u64 0, .bool false, .string ⟨#[]⟩, .slice none 0 0]) rfl) rfl ?_
  rintro _ _ ⟨b4, rfl, rfl⟩
  refine l_eff0 (e_storeA (cs := encRF (r0 0 false)) rfl rfl (by constructor <;> rfl) (Lay.one (r0 0 false))) ?_
  rintro _ _ ⟨rfl, rfl⟩
  refine l_nil ?_
  refine a_normal ?_
  refine w_seq ?_
  refine w_seq ?_
  refine w_heap (H' := rr rb p c xs (a + 1) false * (HP.pts b4 0 (encRF (r0 0 false)) * (HP.pts b2 0 [.int .i64 0, .int .i64 0, .int .u64 0, .int .u64 0, .bool false, .string ⟨#[]⟩, .slice none 0 0] * R))) (by unfold rr; ac_rfl) ?_
  refine w_region rfl ?_
  refine l_val (v_move rfl) rfl ?_
  refine l_nil ?_
  refine a_normal ?_
  refine w_block ?_
  refine w_seq ?_
  refine w_region rfl ?_
  refine l_val (v_eql (i := (xs.getD a 0).toNat) (j := 0) rfl rfl) rfl ?_
  refine l_val (v_assign rfl) rfl ?_
  refine l_nil ?_
  refine a_normal ?_
  refine w_cut (α := RF × Nat × Bool) (fun z => [(0, ptr rb 0), (2, ptr b2 0), (3, u8 (xs.getD a 0)), (4, ptr b4 0)]) (fun z => rr rb p c xs z.2.1 z.2.2 * (HP.pts b4 0 (encRF z.1) * (OwnR z.1 * (HP.pts b2 0 [.int .i64 0, .int .i64 0, .int .u64 0, .int .u64 0, .bool false, .string ⟨#[]⟩, .slice none 0 0] * R)))) (fun z => FrP xs a z.1 z.2.1 z.2.2) ?_ ?_
  · skip
    refine w_condD rfl (fun h0 => ?_) (fun h0 => ?_)
    · skip
      refine w_region rfl ?_
      refine l_val (v_fieldAddr rfl) rfl ?_
      refine l_eff0 (e_store (v := .int .i64 1) rfl rfl rfl trivial) ?_
      rintro _ _ ⟨rfl, rfl⟩
      refine l_nil ?_
      have hkd : kindOf (xs.getD a 0) = 1 := by rw [kindOf_eq]; rw [if_pos h0]
      have h9 := t9n (xs := xs) (a := a) (by omega)
      exact a_cut (r0 1 false, a + 1, false) (frp0 rfl rfl rfl (by show 0 < 100000000000; decide) (by show a + 1 ≤ _; omega) (by omega) (.inl ⟨by rw [hkd, h9]; rfl, rfl⟩)) (.cons rfl (.cons rfl (.cons rfl (.cons rfl .nil)))) (by show _ = rr rb p c xs _ _ * (HP.pts b4 0 (encRF (r0 1 false)) * (OwnR (r0 1 false) * (HP.pts b2 0 [.int .i64 0, .int .i64 0, .int .u64 0, .int .u64 0, .bool false, .string ⟨#[]⟩, .slice none 0 0] * R))); rw [(own0 (r := (r0 1 false)) rfl rfl rfl).2.2, HP.emp_mul])
    · skip
      refine w_seq ?_
      refine w_region rfl ?_
      refine l_val (v_eql (i := (xs.getD a 0).toNat) (j := 1) rfl rfl) rfl ?_
      refine l_val (v_assign rfl) rfl ?_
      refine l_nil ?_
      refine a_normal ?_
      refine w_condD rfl (fun h1 => ?_) (fun h1 => ?_)
      · skip
        refine w_region rfl ?_
        refine l_val (v_fieldAddr rfl) rfl ?_
        refine l_eff0 (e_store (v := .int .i64 2) rfl rfl rfl trivial) ?_
        rintro _ _ ⟨rfl, rfl⟩
        refine l_nil ?_
        have hkd : kindOf (xs.getD a 0) = 2 := by rw [kindOf_eq]; rw [if_neg h0, if_pos h1]
        have h9 := t9n (xs := xs) (a := a) (by omega)
        exact a_cut (r0 2 false, a + 1, false) (frp0 rfl rfl rfl (by show 0 < 100000000000; decide) (by show a + 1 ≤ _; omega) (by omega) (.inl ⟨by rw [hkd, h9]; rfl, rfl⟩)) (.cons rfl (.cons rfl (.cons rfl (.cons rfl .nil)))) (by show _ = rr rb p c xs _ _ * (HP.pts b4 0 (encRF (r0 2 false)) * (OwnR (r0 2 false) * (HP.pts b2 0 [.int .i64 0, .int .i64 0, .int .u64 0, .int .u64 0, .bool false, .string ⟨#[]⟩, .slice none 0 0] * R))); rw [(own0 (r := (r0 2 false)) rfl rfl rfl).2.2, HP.emp_mul])
      · skip
        refine w_seq ?_
        refine w_region rfl ?_
        refine l_val (v_eql (i := (xs.getD a 0).toNat) (j := 2) rfl rfl) rfl ?_
        refine l_val (v_assign rfl) rfl ?_
        refine l_nil ?_
        refine a_normal ?_
        refine w_condD rfl (fun h2 => ?_) (fun h2 => ?_)
        · skip
          refine w_seq ?_
          refine w_region rfl ?_
          refine l_val (v_fieldAddr rfl) rfl ?_
          refine l_eff0 (e_store (v := .int .i64 3) rfl rfl rfl trivial) ?_
          rintro _ _ ⟨rfl, rfl⟩
          refine l_nil ?_
          refine a_normal ?_
          refine w_region rfl ?_
          refine l_val (v_move rfl) rfl ?_
          refine l_eff (e_call rfl (rranges_spec rb p b o c xs (a + 1) _ hs inferInstance hx (by omega))) rfl ?_
          rintro _ _ ⟨q38, b38, o38, c38, s38, rs38, a38, bad38, rfl, hs38, hc38, rfl, ha38, h38, hl38⟩
          refine l_val (v_fieldAddr rfl) rfl ?_
          refine l_eff0 (e_store rfl rfl rfl (by first | trivial | omega)) ?_
          rintro _ _ ⟨rfl, rfl⟩
          refine l_nil ?_
          have hkd : kindOf (xs.getD a 0) = 3 := by rw [kindOf_eq]; rw [if_neg h0, if_neg h1, if_pos h2]
          have h9 := t9n (xs := xs) (a := a) (by omega)
          have hlen : rs38.length < 10000000000 := by
            rcases h38 with ⟨e, _⟩ | ⟨_, _⟩
            · have := rdA_some e; omega
            · exact hl38
          exact a_cut (⟨⟨3, 0, 0, 0, false, ⟨#[]⟩, rs38⟩, q38, b38, o38, c38, s38⟩, a38, bad38) ⟨hs38, hc38, hlen, (by decide : 0 < 100000000000), ha38, by omega, by
            rw [hkd, h9]
            rcases h38 with ⟨e, rfl⟩ | ⟨e, rfl⟩
            · exact .inl ⟨rdK_ack e, rfl⟩
            · exact .inr ⟨rdK_ackN e, rfl⟩⟩ (.cons rfl (.cons rfl (.cons rfl (.cons rfl .nil)))) (by show _ = rr rb p c xs a38 bad38 * (HP.pts b4 0 _ * (arr b38 o38 rs38 s38 * (HP.pts b2 0 [.int .i64 0, .int .i64 0, .int .u64 0, .int .u64 0, .bool false, .string ⟨#[]⟩, .slice none 0 0] * R))); ac_rfl)
        · skip
          refine w_seq ?_
          refine w_region rfl ?_
          refine l_val (v_eql (i := (xs.getD a 0).toNat) (j := 4) rfl rfl) rfl ?_
          refine l_val (v_assign rfl) rfl ?_
          refine l_nil ?_
          refine a_normal ?_
          refine w_condD rfl (fun h4 => ?_) (fun h4 => ?_)
          · skip
            refine w_seq ?_
            refine w_region rfl ?_
            refine l_val (v_fieldAddr rfl) rfl ?_
            refine l_eff0 (e_store (v := .int .i64 4) rfl rfl rfl trivial) ?_
            rintro _ _ ⟨rfl, rfl⟩
            refine l_nil ?_
            refine a_normal ?_
            refine w_seq ?_
            refine w_region rfl ?_
            refine l_val (v_move rfl) rfl ?_
            refine l_eff (e_call rfl (rstream_spec rb p b o c xs (a + 1) false _ hs inferInstance hx (by omega))) rfl ?_
            rintro _ _ ⟨n44, a44, bad44, rfl, rfl, h44⟩
            have g44 : a44 ≤ xs.length := by
              rcases h44 with ⟨h, _⟩ | ⟨_, _, h⟩
              · exact (rdS_some h).2.2
              · exact h
            refine l_val (v_fieldAddr rfl) rfl ?_
            refine l_eff0 (e_store rfl rfl rfl (by first | trivial | omega)) ?_
            rintro _ _ ⟨rfl, rfl⟩
            refine l_nil ?_
            refine a_normal ?_
            refine w_seq ?_
            refine w_region rfl ?_
            refine l_val (v_move rfl) rfl ?_
            refine l_eff (e_call rfl (rnumber_spec rb p b o c xs a44 bad44 _ hs inferInstance hx (by omega))) rfl ?_
            rintro _ _ ⟨n47, a47, bad47, rfl, rfl, h47⟩
            have g47 := num_ok (by omega) h47
            refine l_val (v_fieldAddr rfl) rfl ?_
            refine l_eff0 (e_store rfl rfl rfl (by first | trivial | omega)) ?_
            rintro _ _ ⟨rfl, rfl⟩
            refine l_nil ?_
            refine a_normal ?_
            refine w_region rfl ?_
            refine l_val (v_move rfl) rfl ?_
            refine l_eff (e_call rfl (rnumber_spec rb p b o c xs a47 bad47 _ hs inferInstance hx (by omega))) rfl ?_
            rintro _ _ ⟨n50, a50, bad50, rfl, rfl, h50⟩
            have g50 := num_ok (by omega) h50
            refine l_val (v_fieldAddr rfl) rfl ?_
            refine l_eff0 (e_store rfl rfl rfl (by first | trivial | omega)) ?_
            rintro _ _ ⟨rfl, rfl⟩
            refine l_nil ?_
            have hkd : kindOf (xs.getD a 0) = 4 := by rw [kindOf_eq]; rw [if_neg h0, if_neg h1, if_neg h2, if_pos h4]
            have h9 := t9n (xs := xs) (a := a) (by omega)
            exact a_cut ((⟨⟨4, (n44 : Nat), n50, n47, false, ⟨#[]⟩, []⟩, none, 0, 0, 0, []⟩ : RF), a50, bad50) (frp0 rfl rfl rfl (by show 0 < 100000000000; decide) (by show a50 ≤ _; omega) (by omega) (by
              rw [hkd, h9]
              rcases h44 with ⟨e1, rfl⟩ | ⟨e1, rfl, _⟩
              · rcases h47 with ⟨e2, rfl⟩ | ⟨e2, _, _, rfl⟩
                · rcases h50 with ⟨e3, rfl⟩ | ⟨e3, _, _, rfl⟩
                  · exact .inl ⟨by simp only [rdK, Nat.reduceEqDiff, if_false, if_true, e1, e2, e3], rfl⟩
                  · exact .inr ⟨by simp only [rdK, Nat.reduceEqDiff, if_false, if_true, e1, e2, e3], rfl⟩
                · rcases h50 with ⟨e3, rfl⟩ | ⟨e3, _, _, rfl⟩ <;> exact .inr ⟨by simp only [rdK, Nat.reduceEqDiff, if_false, if_true, e1, e2], rfl⟩
              · rcases h47 with ⟨e2, rfl⟩ | ⟨e2, _, _, rfl⟩ <;> rcases h50 with ⟨e3, rfl⟩ | ⟨e3, _, _, rfl⟩ <;> exact .inr ⟨by simp only [rdK, Nat.reduceEqDiff, if_false, if_true, e1], rfl⟩)) (.cons rfl (.cons rfl (.cons rfl (.cons rfl .nil)))) (by show _ = rr rb p c xs _ _ * (HP.pts b4 0 (encRF (⟨⟨4, (n44 : Nat), n50, n47, false, ⟨#[]⟩, []⟩, none, 0, 0, 0, []⟩ : RF)) * (OwnR (⟨⟨4, (n44 : Nat), n50, n47, false, ⟨#[]⟩, []⟩, none, 0, 0, 0, []⟩ : RF) * (HP.pts b2 0 [.int .i64 0, .int .i64 0, .int .u64 0, .int .u64 0, .bool false, .string ⟨#[]⟩, .slice none 0 0] * R))); rw [(own0 (r := (⟨⟨4, (n44 : Nat), n50, n47, false, ⟨#[]⟩, []⟩, none, 0, 0, 0, []⟩ : RF)) rfl rfl rfl).2.2, HP.emp_mul])
          · skip
            refine w_seq ?_
            refine w_seq ?_
            refine w_region rfl ?_
            refine l_val (v_eql (i := (xs.getD a 0).toNat) (j := 8) rfl rfl) rfl ?_
            refine l_val (v_assign rfl) rfl ?_
            refine l_nil ?_
            refine a_normal ?_
            refine w_condD rfl (fun h8 => ?_) (fun h8 => ?_)
            · skip
              refine w_skip ?_
              refine a_normal ?_
              refine w_condD rfl (fun h8 => ?_) (fun h8 => ?_)
              · skip
                refine w_seq ?_
                refine w_region rfl ?_
                refine l_val (v_fieldAddr rfl) rfl ?_
                refine l_eff0 (e_store (v := .int .i64 5) rfl rfl rfl trivial) ?_
                rintro _ _ ⟨rfl, rfl⟩
                refine l_nil ?_
                refine a_normal ?_
                refine w_seq ?_
                refine w_region rfl ?_
                refine l_val (v_move rfl) rfl ?_
                refine l_val (v_eql (i := (xs.getD a 0).toNat) (j := 9) rfl rfl) rfl ?_
                refine l_val (v_fieldAddr rfl) rfl ?_
                refine l_eff0 (e_store rfl rfl rfl (by first | trivial | omega)) ?_
                rintro _ _ ⟨rfl, rfl⟩
                refine l_nil ?_
                refine a_normal ?_
                refine w_seq ?_
                refine w_region rfl ?_
                refine l_val (v_move rfl) rfl ?_
                refine l_eff (e_call rfl (rstream_spec rb p b o c xs (a + 1) false _ hs inferInstance hx (by omega))) rfl ?_
                rintro _ _ ⟨n60, a60, bad60, rfl, rfl, h60⟩
                have g60 : a60 ≤ xs.length := by
                  rcases h60 with ⟨h, _⟩ | ⟨_, _, h⟩
                  · exact (rdS_some h).2.2
                  · exact h
                refine l_val (v_fieldAddr rfl) rfl ?_
                refine l_eff0 (e_store rfl rfl rfl (by first | trivial | omega)) ?_
                rintro _ _ ⟨rfl, rfl⟩
                refine l_nil ?_
                refine a_normal ?_
                refine w_seq ?_
                refine w_region rfl ?_
                refine l_val (v_move rfl) rfl ?_
                refine l_eff (e_call rfl (rnumber_spec rb p b o c xs a60 bad60 _ hs inferInstance hx (by omega))) rfl ?_
                rintro _ _ ⟨n63, a63, bad63, rfl, rfl, h63⟩
                have g63 := num_ok (by omega) h63
                refine l_val (v_fieldAddr rfl) rfl ?_
                refine l_eff0 (e_store rfl rfl rfl (by first | trivial | omega)) ?_
                rintro _ _ ⟨rfl, rfl⟩
                refine l_nil ?_
                refine a_normal ?_
                refine w_region rfl ?_
                refine l_val (v_move rfl) rfl ?_
                refine l_eff (e_call rfl (rtext_spec rb p b o c xs a63 bad63 _ hs inferInstance hx (by omega))) rfl ?_
                rintro _ _ ⟨d66, a66, bad66, rfl, rfl, ha66, h66, hd66⟩
                refine l_val (v_fieldAddr rfl) rfl ?_
                refine l_eff0 (e_store rfl rfl rfl (by first | trivial | omega)) ?_
                rintro _ _ ⟨rfl, rfl⟩
                refine l_nil ?_
                have hkd : kindOf (xs.getD a 0) = 5 := by rw [kindOf_eq]; rw [if_neg h0, if_neg h1, if_neg h2, if_neg h4, if_pos (by omega)]
                have h9 : decide (xs.getD a 0 = 9) = decide ((xs.getD a 0).toNat = 9) := decide_eq_decide.2 ⟨fun h => by rw [h]; rfl, fun h => UInt8.toNat_inj.1 h⟩
                exact a_cut ((⟨⟨5, (n60 : Nat), n63, 0, decide ((xs.getD a 0).toNat = 9), d66, []⟩, none, 0, 0, 0, []⟩ : RF), a66, bad66) (frp0 rfl rfl rfl hd66 ha66 (by omega) (by
                  rw [hkd, h9]
                  rcases h66 with ⟨hb, l, e3, rfl, rfl⟩ | ⟨rfl, h66⟩
                  · rcases h63 with ⟨e2, rfl⟩ | ⟨e2, _, _, rfl⟩
                    · rcases h60 with ⟨e1, rfl⟩ | ⟨e1, rfl, _⟩
                      · exact .inl ⟨by simp only [rdK, Nat.reduceEqDiff, if_false, if_true, e1, e2, e3], rfl⟩
                      · cases hb
                    · cases hb
                  · refine .inr ⟨?_, rfl⟩
                    rcases h60 with ⟨e1, rfl⟩ | ⟨e1, rfl, _⟩
                    · rcases h63 with ⟨e2, rfl⟩ | ⟨e2, _, _, rfl⟩
                      · rcases h66 with h | e3
                        · cases h
                        · simp only [rdK, Nat.reduceEqDiff, if_false, if_true, e1, e2, e3]
                      · simp only [rdK, Nat.reduceEqDiff, if_false, if_true, e1, e2]
                    · simp only [rdK, Nat.reduceEqDiff, if_false, if_true, e1])) (.cons rfl (.cons rfl (.cons rfl (.cons rfl .nil)))) (by show _ = rr rb p c xs _ _ * (HP.pts b4 0 (encRF (⟨⟨5, (n60 : Nat), n63, 0, decide ((xs.getD a 0).toNat = 9), d66, []⟩, none, 0, 0, 0, []⟩ : RF)) * (OwnR (⟨⟨5, (n60 : Nat), n63, 0, decide ((xs.getD a 0).toNat = 9), d66, []⟩, none, 0, 0, 0, []⟩ : RF) * (HP.pts b2 0 [.int .i64 0, .int .i64 0, .int .u64 0, .int .u64 0, .bool false, .string ⟨#[]⟩, .slice none 0 0] * R))); rw [(own0 (r := (⟨⟨5, (n60 : Nat), n63, 0, decide ((xs.getD a 0).toNat = 9), d66, []⟩, none, 0, 0, 0, []⟩ : RF)) rfl rfl rfl).2.2, HP.emp_mul])
              · skip
                refine w_seq ?_
                refine w_region rfl ?_
                refine l_val (v_eql (i := (xs.getD a 0).toNat) (j := 28) rfl rfl) rfl ?_
                refine l_val (v_assign rfl) rfl ?_
                refine l_nil ?_
                refine a_normal ?_
                refine w_condD rfl (fun h28 => ?_) (fun h28 => ?_)
                · skip
                  refine w_seq ?_
                  refine w_region rfl ?_
                  refine l_val (v_fieldAddr rfl) rfl ?_
                  refine l_eff0 (e_store (v := .int .i64 6) rfl rfl rfl trivial) ?_
                  rintro _ _ ⟨rfl, rfl⟩
                  refine l_nil ?_
                  refine a_normal ?_
                  refine w_region rfl ?_
                  refine l_val (v_move rfl) rfl ?_
                  refine l_eff (e_call rfl (rnumber_spec rb p b o c xs (a + 1) false _ hs inferInstance hx (by omega))) rfl ?_
                  rintro _ _ ⟨n72, a72, bad72, rfl, rfl, h72⟩
                  have g72 := num_ok (by omega) h72
                  refine l_val (v_fieldAddr rfl) rfl ?_
                  refine l_eff0 (e_store rfl rfl rfl (by first | trivial | omega)) ?_
                  rintro _ _ ⟨rfl, rfl⟩
                  refine l_nil ?_
                  exfalso; omega
                · skip
                  refine w_region rfl ?_
                  refine l_val (v_move rfl) rfl ?_
                  refine l_val (v_nilCheck rfl) rfl ?_
                  refine l_val (v_fieldAddr rfl) rfl ?_
                  refine l_eff0 (e_store (v := .bool true) rfl rfl rfl trivial) ?_
                  rintro _ _ ⟨rfl, rfl⟩
                  refine l_nil ?_
                  exfalso; omega
            · skip
              refine w_region rfl ?_
              refine l_val (v_eql (i := (xs.getD a 0).toNat) (j := 9) rfl rfl) rfl ?_
              refine l_val (v_assign rfl) rfl ?_
              refine l_nil ?_
              refine a_normal ?_
              refine w_condD rfl (fun h8 => ?_) (fun h8 => ?_)
              · skip
                refine w_seq ?_
                refine w_region rfl ?_
                refine l_val (v_fieldAddr rfl) rfl ?_
                refine l_eff0 (e_store (v := .int .i64 5) rfl rfl rfl trivial) ?_
                rintro _ _ ⟨rfl, rfl⟩
                refine l_nil ?_
                refine a_normal ?_
                refine w_seq ?_
                refine w_region rfl ?_
                refine l_val (v_move rfl) rfl ?_
                refine l_val (v_eql (i := (xs.getD a 0).toNat) (j := 9) rfl rfl) rfl ?_
                refine l_val (v_fieldAddr rfl) rfl ?_
                refine l_eff0 (e_store rfl rfl rfl (by first | trivial | omega)) ?_
                rintro _ _ ⟨rfl, rfl⟩
                refine l_nil ?_
                refine a_normal ?_
                refine w_seq ?_
                refine w_region rfl ?_
                refine l_val (v_move rfl) rfl ?_
                refine l_eff (e_call rfl (rstream_spec rb p b o c xs (a + 1) false _ hs inferInstance hx (by omega))) rfl ?_
                rintro _ _ ⟨n60, a60, bad60, rfl, rfl, h60⟩
                have g60 : a60 ≤ xs.length := by
                  rcases h60 with ⟨h, _⟩ | ⟨_, _, h⟩
                  · exact (rdS_some h).2.2
                  · exact h
                refine l_val (v_fieldAddr rfl) rfl ?_
                refine l_eff0 (e_store rfl rfl rfl (by first | trivial | omega)) ?_
                rintro _ _ ⟨rfl, rfl⟩
                refine l_nil ?_
                refine a_normal ?_
                refine w_seq ?_
                refine w_region rfl ?_
                refine l_val (v_move rfl) rfl ?_
                refine l_eff (e_call rfl (rnumber_spec rb p b o c xs a60 bad60 _ hs inferInstance hx (by omega))) rfl ?_
                rintro _ _ ⟨n63, a63, bad63, rfl, rfl, h63⟩
                have g63 := num_ok (by omega) h63
                refine l_val (v_fieldAddr rfl) rfl ?_
                refine l_eff0 (e_store rfl rfl rfl (by first | trivial | omega)) ?_
                rintro _ _ ⟨rfl, rfl⟩
                refine l_nil ?_
                refine a_normal ?_
                refine w_region rfl ?_
                refine l_val (v_move rfl) rfl ?_
                refine l_eff (e_call rfl (rtext_spec rb p b o c xs a63 bad63 _ hs inferInstance hx (by omega))) rfl ?_
                rintro _ _ ⟨d66, a66, bad66, rfl, rfl, ha66, h66, hd66⟩
                refine l_val (v_fieldAddr rfl) rfl ?_
                refine l_eff0 (e_store rfl rfl rfl (by first | trivial | omega)) ?_
                rintro _ _ ⟨rfl, rfl⟩
                refine l_nil ?_
                have hkd : kindOf (xs.getD a 0) = 5 := by rw [kindOf_eq]; rw [if_neg h0, if_neg h1, if_neg h2, if_neg h4, if_pos (by omega)]
                have h9 : decide (xs.getD a 0 = 9) = decide ((xs.getD a 0).toNat = 9) := decide_eq_decide.2 ⟨fun h => by rw [h]; rfl, fun h => UInt8.toNat_inj.1 h⟩
                exact a_cut ((⟨⟨5, (n60 : Nat), n63, 0, decide ((xs.getD a 0).toNat = 9), d66, []⟩, none, 0, 0, 0, []⟩ : RF), a66, bad66) (frp0 rfl rfl rfl hd66 ha66 (by omega) (by
                  rw [hkd, h9]
                  rcases h66 with ⟨hb, l, e3, rfl, rfl⟩ | ⟨rfl, h66⟩
                  · rcases h63 with ⟨e2, rfl⟩ | ⟨e2, _, _, rfl⟩
                    · rcases h60 with ⟨e1, rfl⟩ | ⟨e1, rfl, _⟩
                      · exact .inl ⟨by simp only [rdK, Nat.reduceEqDiff, if_false, if_true, e1, e2, e3], rfl⟩
                      · cases hb
                    · cases hb
                  · refine .inr ⟨?_, rfl⟩
                    rcases h60 with ⟨e1, rfl⟩ | ⟨e1, rfl, _⟩
                    · rcases h63 with ⟨e2, rfl⟩ | ⟨e2, _, _, rfl⟩
                      · rcases h66 with h | e3
                        · cases h
                        · simp only [rdK, Nat.reduceEqDiff, if_false, if_true, e1, e2, e3]
                      · simp only [rdK, Nat.reduceEqDiff, if_false, if_true, e1, e2]
                    · simp only [rdK, Nat.reduceEqDiff, if_false, if_true, e1])) (.cons rfl (.cons rfl (.cons rfl (.cons rfl .nil)))) (by show _ = rr rb p c xs _ _ * (HP.pts b4 0 (encRF (⟨⟨5, (n60 : Nat), n63, 0, decide ((xs.getD a 0).toNat = 9), d66, []⟩, none, 0, 0, 0, []⟩ : RF)) * (OwnR (⟨⟨5, (n60 : Nat), n63, 0, decide ((xs.getD a 0).toNat = 9), d66, []⟩, none, 0, 0, 0, []⟩ : RF) * (HP.pts b2 0 [.int .i64 0, .int .i64 0, .int .u64 0, .int .u64 0, .bool false, .string ⟨#[]⟩, .slice none 0 0] * R))); rw [(own0 (r := (⟨⟨5, (n60 : Nat), n63, 0, decide ((xs.getD a 0).toNat = 9), d66, []⟩, none, 0, 0, 0, []⟩ : RF)) rfl rfl rfl).2.2, HP.emp_mul])
              · skip
                refine w_seq ?_
                refine w_region rfl ?_
                refine l_val (v_eql (i := (xs.getD a 0).toNat) (j := 28) rfl rfl) rfl ?_
                refine l_val (v_assign rfl) rfl ?_
                refine l_nil ?_
                refine a_normal ?_
                refine w_condD rfl (fun h28 => ?_) (fun h28 => ?_)
                · skip
                  refine w_seq ?_
                  refine w_region rfl ?_
                  refine l_val (v_fieldAddr rfl) rfl ?_
                  refine l_eff0 (e_store (v := .int .i64 6) rfl rfl rfl trivial) ?_
                  rintro _ _ ⟨rfl, rfl⟩
                  refine l_nil ?_
                  refine a_normal ?_
                  refine w_region rfl ?_
                  refine l_val (v_move rfl) rfl ?_
                  refine l_eff (e_call rfl (rnumber_spec rb p b o c xs (a + 1) false _ hs inferInstance hx (by omega))) rfl ?_
                  rintro _ _ ⟨n72, a72, bad72, rfl, rfl, h72⟩
                  have g72 := num_ok (by omega) h72
                  refine l_val (v_fieldAddr rfl) rfl ?_
                  refine l_eff0 (e_store rfl rfl rfl (by first | trivial | omega)) ?_
                  rintro _ _ ⟨rfl, rfl⟩
                  refine l_nil ?_
                  have hkd : kindOf (xs.getD a 0) = 6 := by rw [kindOf_eq]; rw [if_neg h0, if_neg h1, if_neg h2, if_neg h4, if_neg (by omega), if_pos h28]
                  have h9 := t9n (xs := xs) (a := a) (by omega)
                  exact a_cut ((⟨⟨6, 0, 0, n72, false, ⟨#[]⟩, []⟩, none, 0, 0, 0, []⟩ : RF), a72, bad72) (frp0 rfl rfl rfl (by show 0 < 100000000000; decide) (by show a72 ≤ _; omega) (by omega) (by
                    rw [hkd, h9]
                    rcases h72 with ⟨e1, rfl⟩ | ⟨e1, _, _, rfl⟩
                    · exact .inl ⟨by simp only [rdK, Nat.reduceEqDiff, if_false, if_true, e1], rfl⟩
                    · exact .inr ⟨by simp only [rdK, Nat.reduceEqDiff, if_false, if_true, e1], rfl⟩)) (.cons rfl (.cons rfl (.cons rfl (.cons rfl .nil)))) (by show _ = rr rb p c xs _ _ * (HP.pts b4 0 (encRF (⟨⟨6, 0, 0, n72, false, ⟨#[]⟩, []⟩, none, 0, 0, 0, []⟩ : RF)) * (OwnR (⟨⟨6, 0, 0, n72, false, ⟨#[]⟩, []⟩, none, 0, 0, 0, []⟩ : RF) * (HP.pts b2 0 [.int .i64 0, .int .i64 0, .int .u64 0, .int .u64 0, .bool false, .string ⟨#[]⟩, .slice none 0 0] * R))); rw [(own0 (r := (⟨⟨6, 0, 0, n72, false, ⟨#[]⟩, []⟩, none, 0, 0, 0, []⟩ : RF)) rfl rfl rfl).2.2, HP.emp_mul])
                · skip
                  refine w_region rfl ?_
                  refine l_val (v_move rfl) rfl ?_
                  refine l_val (v_nilCheck rfl) rfl ?_
                  refine l_val (v_fieldAddr rfl) rfl ?_
                  refine l_eff0 (e_store (v := .bool true) rfl rfl rfl trivial) ?_
                  rintro _ _ ⟨rfl, rfl⟩
                  refine l_nil ?_
                  have hkd : kindOf (xs.getD a 0) = 0 := by rw [kindOf_eq]; rw [if_neg h0, if_neg h1, if_neg h2, if_neg h4, if_neg (by omega), if_neg h28]
                  exact a_cut (r0 0 false, a + 1, true) (frp0 rfl rfl rfl (by show 0 < 100000000000; decide) (by show a + 1 ≤ _; omega) (by omega) (.inr ⟨by rw [hkd]; rfl, rfl⟩)) (.cons rfl (.cons rfl (.cons rfl (.cons rfl .nil)))) (by show _ = rr rb p c xs _ _ * (HP.pts b4 0 (encRF (r0 0 false)) * (OwnR (r0 0 false) * (HP.pts b2 0 [.int .i64 0, .int .i64 0, .int .u64 0, .int .u64 0, .bool false, .string ⟨#[]⟩, .slice none 0 0] * R))); rw [(own0 (r := (r0 0 false)) rfl rfl rfl).2.2, HP.emp_mul])
  · rintro ⟨r, a1, bad1⟩ ⟨hok, hown, hrl, hds, ha1, ha2, hfr⟩
    dsimp only at hok hown hrl hds ha1 hfr ⊢
    have hmod : Mod r := ⟨hok, hrl, hds⟩
    have hro : RdA B (OwnR r) r.b r.o r.f.ranges := (inferInstance : RdA B (arr r.b r.o r.f.ranges r.s) r.b r.o r.f.ranges)
    refine a_bnormal ?_
    refine a_normal ?_
    refine w_seq ?_
    refine w_seq ?_
    refine w_region rfl ?_
    refine l_val (v_move rfl) rfl ?_
    refine l_val (v_nilCheck rfl) rfl ?_
    refine l_val (v_fieldAddr rfl) rfl ?_
    refine l_val (v_load rfl trivial) rfl ?_
    refine l_val (v_not rfl) rfl ?_
    refine l_nil ?_
    refine a_normal ?_
    refine w_cut (α := Bool) (fun z => [(0, ptr rb 0), (2, ptr b2 0), (3, u8 (xs.getD a 0)), (4, ptr b4 0)]) (fun z => rr rb p c xs a1 z * (HP.pts b4 0 (encRF r) * (OwnR r * (HP.pts b2 0 [.int .i64 0, .int .i64 0, .int .u64 0, .int .u64 0, .bool false, .string ⟨#[]⟩, .slice none 0 0] * R)))) (fun z => (rdF xs a = some (r.f, a1) ∧ z = false) ∨ (rdF xs a = none ∧ z = true)) ?_ ?_
    · skip
      refine w_cond rfl (fun hnb => ?_) (fun hnb => ?_)
      · skip
        refine w_seq ?_
        refine w_region rfl ?_
        refine l_val (v_loadA rfl rfl) rfl ?_
        refine l_eff (e_call rfl (rsound_spec r _ hmod inferInstance)) rfl ?_
        rintro _ _ ⟨rfl, rfl⟩
        refine l_val (v_assign rfl) rfl ?_
        refine l_nil ?_
        refine a_normal ?_
        refine w_region rfl ?_
        refine l_val (v_move rfl) rfl ?_
        refine l_val (v_move rfl) rfl ?_
        refine l_val (v_not rfl) rfl ?_
        refine l_val (v_nilCheck rfl) rfl ?_
        refine l_val (v_fieldAddr rfl) rfl ?_
        refine l_eff0 (e_store (v := .bool (!decide (okF r.f))) rfl rfl rfl trivial) ?_
        rintro _ _ ⟨rfl, rfl⟩
        refine l_nil ?_
        refine a_cut (!decide (okF r.f)) (by
          rcases hfr with ⟨e, rfl⟩ | ⟨e, rfl⟩
          · by_cases ho : okF r.f
            · exact .inl ⟨by unfold rdF; rw [e]; exact if_pos ho, by rw [decide_eq_true ho]; rfl⟩
            · exact .inr ⟨by unfold rdF; rw [e]; exact if_neg ho, by rw [decide_eq_false ho]; rfl⟩
          · cases hnb) (.cons rfl (.cons rfl (.cons rfl (.cons rfl .nil)))) rfl
      · skip
        refine w_skip ?_
        refine a_cut bad1 (by
          rcases hfr with ⟨e, rfl⟩ | ⟨e, rfl⟩
          · cases hnb
          · exact .inr ⟨by unfold rdF; rw [e], rfl⟩) (.cons rfl (.cons rfl (.cons rfl (.cons rfl .nil)))) rfl
    · intro z hz
      refine a_normal ?_
      refine w_seq ?_
      refine w_region rfl ?_
      refine l_val (v_loadA rfl rfl) rfl ?_
      refine l_heap (H' := HP.pts b2 0 [.int .i64 0, .int .i64 0, .int .u64 0, .int .u64 0, .bool false, .string ⟨#[]⟩, .slice none 0 0] * (rr rb p c xs a1 z * (HP.pts b4 0 (encRF r) * (OwnR r * R)))) (by ac_rfl) ?_
      refine l_eff0 (e_storeA (cs := encRF r) rfl rfl (by constructor <;> rfl) (Lay.one r)) ?_
      rintro _ _ ⟨rfl, rfl⟩
      refine l_ent (HP.pts b2 0 (encRF r) * (rr rb p c xs a1 z * (OwnR r * R))) ?_
      refine l_nil ?_
      refine a_normal ?_
      refine w_ret ?_
      exact a_retG (rr rb p c xs a1 z * (OwnR r * R)) rfl (rvs_cons (rv_cellA rfl rfl) rvs_nil) ⟨r, a1, z, rfl, hok, hown, hmod, ha1, rfl, hz⟩
end Go.Proofs.YtgfdlpcdjklcoaaDoor
