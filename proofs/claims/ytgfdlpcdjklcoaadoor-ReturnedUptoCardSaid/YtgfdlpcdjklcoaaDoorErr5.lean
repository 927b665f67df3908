/- errors.As and errors.Is at a fault; plain.Told; no condition. -/
import Derived.Test.YtgfdlpcdjklcoaaDoorErr3
import Derived.Test.YtgfdlpcdjklcoaaDoorErr4
import Derived.Test.YtgfdlpcdjklcoaaDoorSealTop
namespace Go.Proofs.YtgfdlpcdjklcoaaDoor
open Go Go.RowKit Go.Extern.Stop Go.Stop Go.Extern
set_option linter.unusedVariables false
set_option maxRecDepth 20000
variable {B : World}
abbrev flt (q : Nat) : Value := .iface 84 (ptr q 0)
/-- a fault in memory -/
abbrev fltH (q k : Nat) (at_ : Value) : HP := HP.pts q 0 [.int .i64 (k : Nat), at_]

theorem unwrap_spec (q k : Nat) (at_ : Value) (R : HP) : Fn Tryd.prog B 115 [ptr q 0] (fltH q k at_ * R) (fun v H' => v = eno k ∧ H' = fltH q k at_ * R) := by
  refine fn_intro Tryd.func115 rfl rfl rfl ?_
  refine w_seq ?_
  refine w_region rfl ?_
  refine l_val (v_assign rfl) rfl ?_
  refine l_nil ?_
  refine a_normal ?_
  refine w_seq ?_
  refine w_region rfl ?_
  refine l_val (v_move rfl) rfl ?_
  refine l_val (v_nilCheck rfl) rfl ?_
  refine l_val (v_fieldAddr rfl) rfl ?_
  refine l_val (v_load rfl trivial) rfl ?_
  refine l_val (v_makeIface (by kernel_rfl) rfl) rfl ?_
  refine l_val (v_assign rfl) rfl ?_
  refine l_nil ?_
  refine a_normal ?_
  refine w_ret ?_
  exact a_ret (ts := [2]) rfl rfl ⟨rfl, rfl⟩

theorem as_hitF (q : Nat) (tg old : Value) (b5 b14 : Nat) (R : HP) : Fn Tryd.prog B 68 [flt q, tg, .agg #[.pointer (some ⟨1, 86, none⟩), ptr b14 0, .int .u64 150], rty 84] (HP.pts b5 0 [old] * (HP.pts b14 0 [ptr b5 0] * R))
    (fun v H' => v = .bool true ∧ H' = HP.pts b5 0 [ptr q 0] * (HP.pts b14 0 [ptr b5 0] * R)) := by
  refine fn_intro Tryd.func68 rfl rfl rfl ?_
  refine w_seq ?_
  refine w_region rfl ?_
  refine l_eff (e_box (l := [.pointer (some ⟨1, 86, none⟩), ptr b14 0, .int .u64 150]) rfl rfl) rfl ?_
  rintro _ _ ⟨b6, rfl, rfl⟩
  refine l_val (v_assign rfl) rfl ?_
  refine l_nil ?_
  refine a_normal ?_
  refine w_block ?_
  refine w_loop (fun _ : Unit => [(0, flt q), (1, tg), (3, rty 84), (6, ptr b6 0)]) (fun _ => (HP.pts b6 0 [.pointer (some ⟨1, 86, none⟩), ptr b14 0, .int .u64 150] * (HP.pts b5 0 [old] * (HP.pts b14 0 [ptr b5 0] * R)))) (fun _ => True) (fun _ => 0) () trivial (.cons rfl (.cons rfl (.cons rfl (.cons rfl .nil)))) rfl ?_
  intro _ _
  refine w_block ?_
  refine w_seq ?_
  refine w_seq ?_
  refine w_region rfl ?_
  refine l_val (v_move rfl) rfl ?_
  refine l_val (v_ext rfl (fun w _ => er_typeOf84 _ w)) rfl ?_
  refine l_val (v_move rfl) rfl ?_
  refine l_val (v_inv rfl rfl (fun w _ => er_assign84 w)) rfl ?_
  refine l_nil ?_
  refine a_normal ?_
  refine w_cond rfl (fun hc => ?_) (fun hc => ?_)
  rotate_left
  · cases hc
  refine w_seq ?_
  refine w_region rfl ?_
  refine l_val (v_loadA rfl rfl) rfl ?_
  refine l_val (v_ext (v := .agg #[.pointer (some ⟨1, 84, none⟩), ptr b5 0, .int .u64 406]) rfl (fun w hw => er_elemV86 ⟨b14, 0, none⟩ ⟨b5, 0, none⟩ w ((inferInstance : Rd B (HP.pts b6 0 [.pointer (some ⟨1, 86, none⟩), ptr b14 0, .int .u64 150] * (HP.pts b5 0 [old] * (HP.pts b14 0 [ptr b5 0] * R))) b14 0 (ptr b5 0) True).get w hw trivial))) rfl ?_
  refine l_val (v_move rfl) rfl ?_
  refine l_eff (e_ext (Post := fun v H' => ∃ b, v = .agg #[.pointer (some ⟨1, 84, none⟩), ptr b 0, .int .u64 150] ∧ H' = HP.pts b 0 [ptr q 0] * (HP.pts b6 0 [.pointer (some ⟨1, 86, none⟩), ptr b14 0, .int .u64 150] * (HP.pts b5 0 [old] * (HP.pts b14 0 [ptr b5 0] * R)))) rfl (fun w hw => ⟨_, _, _, er_valueOf84 _ w, ⟨w.heap.size, rfl, rfl⟩, hw.alloc _ _⟩)) rfl ?_
  rintro _ _ ⟨b23, rfl, rfl⟩
  refine l_eff (e_ext (Post := fun v H' => H' = HP.pts b23 0 [ptr q 0] * (HP.pts b6 0 [.pointer (some ⟨1, 86, none⟩), ptr b14 0, .int .u64 150] * (HP.pts b5 0 [ptr q 0] * (HP.pts b14 0 [ptr b5 0] * R)))) rfl (fun w hw => by
  have hb := (inferInstance : Rd B (HP.pts b23 0 [ptr q 0] * (HP.pts b6 0 [.pointer (some ⟨1, 86, none⟩), ptr b14 0, .int .u64 150] * (HP.pts b5 0 [old] * (HP.pts b14 0 [ptr b5 0] * R)))) b23 0 (ptr q 0) True).get w hw trivial
  obtain ⟨⟨u, hu⟩, hf, hs⟩ := Sat.store (v := ptr q 0) (H' := HP.pts b23 0 [ptr q 0] * (HP.pts b6 0 [.pointer (some ⟨1, 86, none⟩), ptr b14 0, .int .u64 150] * (HP.pts b5 0 [ptr q 0] * (HP.pts b14 0 [ptr b5 0] * R)))) (s := True) (b := b5) (i := 0) inferInstance hw trivial
  exact ⟨_, _, _, er_set84 ⟨b5, 0, none⟩ ⟨b23, 0, none⟩ ⟨q, 0, none⟩ u w hb hu hf, rfl, hs⟩)) rfl ?_
  rintro _ _ rfl
  refine l_nil ?_
  refine a_normal ?_
  refine w_seq ?_
  refine w_region rfl ?_
  refine l_val (v_assign rfl) rfl ?_
  refine l_nil ?_
  refine a_normal ?_
  refine w_ret ?_
  refine a_tret ?_
  refine a_bret ?_
  refine a_tret ?_
  refine a_bret ?_
  exact a_retD (ts := [8]) (HP.pts b5 0 [ptr q 0] * (HP.pts b14 0 [ptr b5 0] * R)) rfl rfl ⟨rfl, rfl⟩

theorem As_hitF (hG : B.cell? ⟨0, 0, none⟩ = some (rty 55)) (q : Nat) (old : Value) (b4 : Nat) (R : HP) : Fn Tryd.prog B 48 [flt q, .iface 86 (ptr b4 0)] (HP.pts b4 0 [old] * R) (fun v H' => v = .bool true ∧ H' = HP.pts b4 0 [ptr q 0] * R) := by
  refine fn_intro Tryd.func48 rfl rfl rfl ?_
  refine w_seq ?_
  refine w_region rfl ?_
  refine l_val (v_assign rfl) rfl ?_
  refine l_nil ?_
  refine a_normal ?_
  refine w_seq ?_
  refine w_seq ?_
  refine w_region rfl ?_
  refine l_val (v_move rfl) rfl ?_
  refine l_val (v_bin (r := .bool false) rfl rfl (fun w => by kernel_rfl) (fun w => by kernel_rfl)) rfl ?_
  refine l_nil ?_
  refine a_normal ?_
  refine w_cond rfl (fun hc => ?_) (fun hc => ?_)
  · cases hc
  refine w_skip ?_
  refine a_normal ?_
  refine w_seq ?_
  refine w_seq ?_
  refine w_region rfl ?_
  refine l_val (v_move rfl) rfl ?_
  refine l_val (v_bin (r := .bool false) rfl rfl (fun w => by kernel_rfl) (fun w => by kernel_rfl)) rfl ?_
  refine l_nil ?_
  refine a_normal ?_
  refine w_cond rfl (fun hc => ?_) (fun hc => ?_)
  · cases hc
  refine w_skip ?_
  refine a_normal ?_
  refine w_seq ?_
  refine w_region rfl ?_
  refine l_val (v_move rfl) rfl ?_
  refine l_eff (e_ext (Post := fun v H' => ∃ b, v = .agg #[.pointer (some ⟨1, 86, none⟩), ptr b 0, .int .u64 150] ∧ H' = HP.pts b 0 [ptr b4 0] * (HP.pts b4 0 [old] * R)) rfl (fun w hw => ⟨_, _, _, er_valueOf86 _ w, ⟨w.heap.size, rfl, rfl⟩, hw.alloc _ _⟩)) rfl ?_
  rintro _ _ ⟨b14, rfl, rfl⟩
  refine l_eff (e_alloc (l := [_, _, _]) rfl) rfl ?_
  rintro _ _ ⟨b5, rfl, rfl⟩
  refine l_eff0 (e_storeA rfl rfl (by constructor <;> rfl) (by simp [Value.oneCell'])) ?_
  rintro _ _ ⟨rfl, rfl⟩
  refine l_nil ?_
  refine a_normal ?_
  refine w_seq ?_
  refine w_region rfl ?_
  refine l_val (v_loadA rfl rfl) rfl ?_
  refine l_val (v_ext rfl (fun w _ => er_type86 _ w)) rfl ?_
  refine l_val (v_assign rfl) rfl ?_
  refine l_nil ?_
  refine a_normal ?_
  refine w_seq ?_
  refine w_seq ?_
  refine w_region rfl ?_
  refine l_val (v_move rfl) rfl ?_
  refine l_val (v_inv rfl rfl (fun w _ => er_kind86 w)) rfl ?_
  refine l_val (v_neq (i := 22) (j := 22) rfl rfl) rfl ?_
  refine l_val (v_move rfl) rfl ?_
  refine l_case 20 rfl (fun hg1 => ?_) (fun hg1 => ?_)
  · skip
    exact absurd rfl hg1
  · skip
    refine l_gY rfl rfl rfl (decide_eq_false hg1) ?_
    refine l_val (v_loadA rfl rfl) rfl ?_
    refine l_gY rfl rfl rfl (decide_eq_false hg1) ?_
    refine l_val (v_ext rfl (fun w hw => er_isNil86 ⟨b14, 0, none⟩ ⟨b4, 0, none⟩ w ((inferInstance : Rd B _ b14 0 (ptr b4 0) True).get w hw trivial))) rfl ?_
    refine l_val (v_pickN (decide_eq_false hg1) rfl rfl) rfl ?_
    refine l_nil ?_
    refine a_normal ?_
    refine w_cond rfl (fun hc => ?_) (fun hc => ?_)
    · cases hc
    refine w_skip ?_
    refine a_normal ?_
    refine w_seq ?_
    refine w_region rfl ?_
    refine l_val (v_move rfl) rfl ?_
    refine l_val (v_inv rfl rfl (fun w _ => er_elem86 w)) rfl ?_
    refine l_val (v_assign rfl) rfl ?_
    refine l_nil ?_
    refine a_normal ?_
    refine w_seq ?_
    refine w_seq ?_
    refine w_region rfl ?_
    refine l_val (v_move rfl) rfl ?_
    refine l_val (v_inv rfl rfl (fun w _ => er_kind84 w)) rfl ?_
    refine l_val (v_neq (i := 22) (j := 20) rfl rfl) rfl ?_
    refine l_val (v_move rfl) rfl ?_
    refine l_case 30 rfl (fun hg2 => ?_) (fun hg2 => ?_)
    · skip
      refine l_gY rfl rfl rfl (decide_eq_true hg2) ?_
      refine l_val (v_move rfl) rfl ?_
      refine l_gY rfl rfl rfl (decide_eq_true hg2) ?_
      refine l_val (v_load (hr := rd_base hG) rfl trivial) rfl ?_
      refine l_gY rfl rfl rfl (decide_eq_true hg2) ?_
      refine l_val (v_inv rfl rfl (fun w _ => er_impl86 w)) rfl ?_
      refine l_gY rfl rfl rfl (decide_eq_true hg2) ?_
      refine l_val (v_not rfl) rfl ?_
      refine l_val (v_pickY (decide_eq_true hg2) rfl rfl) rfl ?_
      refine l_nil ?_
      refine a_normal ?_
      refine w_cond rfl (fun hc => ?_) (fun hc => ?_)
      · cases hc
      refine w_skip ?_
      refine a_normal ?_
      refine w_seq ?_
      refine w_region rfl ?_
      refine l_val (v_move rfl) rfl ?_
      refine l_val (v_move rfl) rfl ?_
      refine l_val (v_loadA rfl rfl) rfl ?_
      refine l_val (v_move rfl) rfl ?_
      refine l_heap (H' := HP.pts b4 0 [old] * (HP.pts b14 0 [ptr b4 0] * (HP.pts b5 0 [.pointer (some ⟨1, 86, none⟩), ptr b14 0, .int .u64 150] * R))) (by ac_rfl) ?_
      refine l_eff (e_call rfl (as_hitF q _ old b4 b14 (HP.pts b5 0 [.pointer (some ⟨1, 86, none⟩), ptr b14 0, .int .u64 150] * R))) rfl ?_
      rintro _ _ ⟨rfl, rfl⟩
      refine l_val (v_assign rfl) rfl ?_
      refine l_nil ?_
      refine a_normal ?_
      refine w_ret ?_
      exact a_retD (ts := [4]) (HP.pts b4 0 [ptr q 0] * R) rfl rfl ⟨rfl, rfl⟩
    · skip
      exact absurd (by decide) hg2

theorem er_eqFE (q : Value) (k : Int) (w : World) : (binOp .eql 55 (.iface 84 q) (.iface 31 (.int .i64 k))).run Tryd.prog w = .ok (.bool false) w := by kernel_rfl

theorem is_fault (q k : Nat) (at_ : Value) (R : HP) : Fn Tryd.prog B 70 [flt q, eno k, .bool true] (fltH q k at_ * R) (fun v H' => v = .bool true ∧ H' = fltH q k at_ * R) := by
  refine fn_intro Tryd.func70 rfl rfl rfl ?_
  refine w_seq ?_
  refine w_region rfl ?_
  refine l_val (v_assign rfl) rfl ?_
  refine l_nil ?_
  refine a_normal ?_
  refine w_block ?_
  refine w_loop (fun z : Bool => [(0, bif z then flt q else eno k), (1, eno k), (2, .bool true)]) (fun _ => fltH q k at_ * R) (fun _ => True) (fun z => bif z then 1 else 0) true trivial (.cons rfl (.cons rfl (.cons rfl .nil))) rfl ?_
  intro z _
  have hne : (bif z then flt q else eno k) = flt q ∨ z = false := by cases z <;> simp
  cases z
  rotate_left
  · dsimp only [cond_true] at *
    refine w_block ?_
    refine w_seq ?_
    refine w_seq ?_
    refine w_region rfl ?_
    refine l_val (v_move rfl) rfl ?_
    refine l_val (v_move rfl) rfl ?_
    refine l_caseB 15 rfl (fun hg1 => ?_) (fun hg1 => ?_)
    · skip
      refine l_gY rfl rfl rfl hg1 ?_
      refine l_val (v_move rfl) rfl ?_
      refine l_gY rfl rfl rfl hg1 ?_
      refine l_val (v_move rfl) rfl ?_
      refine l_gY rfl rfl rfl hg1 ?_
      refine l_val (v_bin (r := .bool false) rfl rfl (fun w => by kernel_rfl) (fun w => by rw [er_eqFE])) rfl ?_
      refine l_val (v_pickY hg1 rfl rfl) rfl ?_
      refine l_nil ?_
      refine a_normal ?_
      refine w_cond rfl (fun hc => ?_) (fun hc => ?_)
      · cases hc
      refine w_skip ?_
      refine a_normal ?_
      refine w_seq ?_
      refine w_seq ?_
      refine w_region rfl ?_
      refine l_val (v_move rfl) rfl ?_
      refine l_val (v_assert (v := .tuple #[.nilIface, .bool false]) rfl (run_typeAssert_lacksB TyOf.get (by kernel_rfl) (by kernel_rfl) _ _)) rfl ?_
      refine l_val (v_move rfl) rfl ?_
      refine l_val (v_extract rfl rfl) rfl ?_
      refine l_val (v_extract rfl rfl) rfl ?_
      refine l_val (v_assign rfl) rfl ?_
      refine l_val (v_assign rfl) rfl ?_
      refine l_nil ?_
      refine a_normal ?_
      refine w_seq ?_
      refine w_region rfl ?_
      refine l_val (v_move rfl) rfl ?_
      refine l_val (v_move rfl) rfl ?_
      refine l_caseB 26 rfl (fun hg2 => ?_) (fun hg2 => ?_)
      · skip
        cases hg2
      · skip
        refine l_gN rfl rfl rfl hg2 ?_
        refine l_gN rfl rfl rfl hg2 ?_
        refine l_gN rfl rfl rfl hg2 ?_
        refine l_val (v_pickN hg2 rfl rfl) rfl ?_
        refine l_nil ?_
        refine a_normal ?_
        refine w_condN rfl rfl ?_
        refine w_skip ?_
        refine a_normal ?_
        refine w_seq ?_
        refine w_region rfl ?_
        refine l_val (v_move rfl) rfl ?_
        refine l_nil ?_
        refine a_normal ?_
        refine w_block ?_
        refine w_seq ?_
        refine w_region rfl ?_
        refine l_val (v_assert (v := .tuple #[flt q, .bool true]) rfl (run_typeAssert_hasB TyOf.get (by kernel_rfl) _ _)) rfl ?_
        refine l_val (v_extract rfl rfl) rfl ?_
        refine l_val (v_extract rfl rfl) rfl ?_
        refine l_nil ?_
        refine a_normal ?_
        refine w_cond rfl (fun hc => ?_) (fun hc => ?_)
        rotate_left
        · cases hc
        refine w_seq ?_
        refine w_region rfl ?_
        refine l_val (v_assign rfl) rfl ?_
        refine l_nil ?_
        refine a_normal ?_
        refine w_seq ?_
        refine w_region rfl ?_
        refine l_val (v_move rfl) rfl ?_
        refine l_eff (e_inv rfl rfl (unwrap_spec q k at_ R)) rfl ?_
        rintro _ _ ⟨rfl, rfl⟩
        refine l_val (v_assign rfl) rfl ?_
        refine l_nil ?_
        refine a_normal ?_
        refine w_seq ?_
        refine w_region rfl ?_
        refine l_val (v_move rfl) rfl ?_
        refine l_val (v_bin (r := .bool false) rfl rfl (fun w => by kernel_rfl) (fun w => by kernel_rfl)) rfl ?_
        refine l_nil ?_
        refine a_normal ?_
        refine w_cond rfl (fun hc => ?_) (fun hc => ?_)
        · cases hc
        refine w_skip ?_
        refine a_bnormal ?_
        refine a_bnormal ?_
        exact a_loop false trivial (by decide) (.cons rfl (.cons rfl (.cons rfl .nil))) rfl
    · skip
      cases hg1
  dsimp only [cond_false] at *
  refine w_block ?_
  refine w_seq ?_
  refine w_seq ?_
  refine w_region rfl ?_
  refine l_val (v_move rfl) rfl ?_
  refine l_val (v_move rfl) rfl ?_
  refine l_caseB 15 rfl (fun hg1 => ?_) (fun hg1 => ?_)
  · skip
    refine l_gY rfl rfl rfl hg1 ?_
    refine l_val (v_move rfl) rfl ?_
    refine l_gY rfl rfl rfl hg1 ?_
    refine l_val (v_move rfl) rfl ?_
    refine l_gY rfl rfl rfl hg1 ?_
    refine l_val (v_bin (r := .bool true) rfl rfl (fun w => by kernel_rfl) (fun w => by rw [er_eq31]; simp)) rfl ?_
    refine l_val (v_pickY hg1 rfl rfl) rfl ?_
    refine l_nil ?_
    refine a_normal ?_
    refine w_cond rfl (fun hc => ?_) (fun hc => ?_)
    rotate_left
    · cases hc
    refine w_seq ?_
    refine w_region rfl ?_
    refine l_val (v_assign rfl) rfl ?_
    refine l_nil ?_
    refine a_normal ?_
    refine w_ret ?_
    refine a_tret ?_
    refine a_bret ?_
    refine a_tret ?_
    refine a_bret ?_
    exact a_ret (ts := [6]) rfl rfl ⟨rfl, rfl⟩
  · skip
    cases hg1

theorem Is_fault (q k : Nat) (at_ : Value) (R : HP) : Fn Tryd.prog B 49 [flt q, eno k] (fltH q k at_ * R) (fun v H' => v = .bool true ∧ H' = fltH q k at_ * R) := by
  refine fn_intro Tryd.func49 rfl rfl rfl ?_
  refine w_seq ?_
  refine w_region rfl ?_
  refine l_val (v_assign rfl) rfl ?_
  refine l_nil ?_
  refine a_normal ?_
  refine w_seq ?_
  refine w_seq ?_
  refine w_region rfl ?_
  refine l_val (v_move rfl) rfl ?_
  refine l_val (v_bin (r := .bool false) rfl rfl (fun w => by kernel_rfl) (fun w => by kernel_rfl)) rfl ?_
  refine l_val (v_move rfl) rfl ?_
  refine l_caseB 8 rfl (fun hg1 => ?_) (fun hg1 => ?_)
  · skip
    cases hg1
  · skip
    refine l_gY rfl rfl rfl hg1 ?_
    refine l_val (v_move rfl) rfl ?_
    refine l_gY rfl rfl rfl hg1 ?_
    refine l_val (v_bin (r := .bool false) rfl rfl (fun w => by kernel_rfl) (fun w => by kernel_rfl)) rfl ?_
    refine l_val (v_pickN hg1 rfl rfl) rfl ?_
    refine l_nil ?_
    refine a_normal ?_
    refine w_cond rfl (fun hc => ?_) (fun hc => ?_)
    · cases hc
    refine w_skip ?_
    refine a_normal ?_
    refine w_seq ?_
    refine w_region rfl ?_
    refine l_val (v_move rfl) rfl ?_
    refine l_val (v_ext rfl (fun w _ => er_typeOf31 _ w)) rfl ?_
    refine l_val (v_inv rfl rfl (fun w _ => er_comp31 w)) rfl ?_
    refine l_val (v_assign rfl) rfl ?_
    refine l_nil ?_
    refine a_normal ?_
    refine w_seq ?_
    refine w_region rfl ?_
    refine l_val (v_move rfl) rfl ?_
    refine l_val (v_move rfl) rfl ?_
    refine l_val (v_move rfl) rfl ?_
    refine l_eff (e_call rfl (is_fault q k at_ R)) rfl ?_
    rintro _ _ ⟨rfl, rfl⟩
    refine l_val (v_assign rfl) rfl ?_
    refine l_nil ?_
    refine a_normal ?_
    refine w_ret ?_
    exact a_ret (ts := [4]) rfl rfl ⟨rfl, rfl⟩

theorem told_errno (hG : B.cell? ⟨0, 0, none⟩ = some (rty 55)) (k : Nat) (H : HP) : Fn Tryd.prog B 34 [eno k] H (fun v H' => v = .tuple #[.int .i64 k, .int .i64 (-1)] ∧ H' = H) := by
  refine fn_intro Tryd.func34 rfl rfl rfl ?_
  refine w_seq ?_
  refine w_region rfl ?_
  refine l_val (v_assign (v := .int .i64 (0 : Nat)) rfl) rfl ?_
  refine l_val (v_assign (v := .int .i64 (0 : Nat)) rfl) rfl ?_
  refine l_nil ?_
  refine a_normal ?_
  refine w_seq ?_
  refine w_region rfl ?_
  refine l_eff (e_alloc (l := [_]) rfl) rfl ?_
  rintro _ _ ⟨b4, rfl, rfl⟩
  refine l_nil ?_
  refine a_normal ?_
  refine w_seq ?_
  refine w_region rfl ?_
  refine l_eff (e_alloc (l := [_]) rfl) rfl ?_
  rintro _ _ ⟨b5, rfl, rfl⟩
  refine l_nil ?_
  refine a_normal ?_
  refine w_seq ?_
  refine w_block ?_
  refine w_seq ?_
  refine w_region rfl ?_
  refine l_val (v_move rfl) rfl ?_
  refine l_val (v_bin (r := .bool false) rfl rfl (fun w => by kernel_rfl) (fun w => by kernel_rfl)) rfl ?_
  refine l_val (v_assign rfl) rfl ?_
  refine l_nil ?_
  refine a_normal ?_
  refine w_cond rfl (fun hc => ?_) (fun hc => ?_)
  · cases hc
  refine w_seq ?_
  refine w_region rfl ?_
  refine l_val (v_move rfl) rfl ?_
  refine l_val (v_makeIface (by kernel_rfl) rfl) rfl ?_
  refine l_heap (HP.left_comm _ _ _) ?_
  refine l_eff (e_call rfl (As_miss hG k _ b4 _)) rfl ?_
  rintro _ _ ⟨rfl, rfl⟩
  refine l_val (v_move rfl) rfl ?_
  refine l_caseB 13 rfl (fun hg1 => ?_) (fun hg1 => ?_)
  · skip
    cases hg1
  · skip
    refine l_gN rfl rfl rfl hg1 ?_
    refine l_gN rfl rfl rfl hg1 ?_
    refine l_gN rfl rfl rfl hg1 ?_
    refine l_gN rfl rfl rfl hg1 ?_
    refine l_gN rfl rfl rfl hg1 ?_
    refine l_gN rfl rfl rfl hg1 ?_
    refine l_gN rfl rfl rfl hg1 ?_
    refine l_val (v_pickN hg1 rfl rfl) rfl ?_
    refine l_val (v_assign rfl) rfl ?_
    refine l_nil ?_
    refine a_normal ?_
    refine w_condN rfl rfl ?_
    refine w_seq ?_
    refine w_region rfl ?_
    refine l_val (v_move rfl) rfl ?_
    refine l_val (v_makeIface (by kernel_rfl) rfl) rfl ?_
    refine l_heap (HP.left_comm _ _ _) ?_
    refine l_eff (e_call rfl (As_hit hG k _ b5 _)) rfl ?_
    rintro _ _ ⟨rfl, rfl⟩
    refine l_val (v_move rfl) rfl ?_
    refine l_caseB 34 rfl (fun hg2 => ?_) (fun hg2 => ?_)
    · skip
      refine l_gY rfl rfl rfl hg2 ?_
      refine l_val (v_move rfl) rfl ?_
      refine l_gY rfl rfl rfl hg2 ?_
      refine l_val (v_load rfl trivial) rfl ?_
      refine l_gY rfl rfl rfl hg2 ?_
      refine l_val (v_makeIface (by kernel_rfl) rfl) rfl ?_
      refine l_gY rfl rfl rfl hg2 ?_
      refine l_eff (e_call rfl (Is_same k _)) rfl ?_
      rintro _ _ ⟨rfl, rfl⟩
      refine l_val (v_pickY hg2 rfl rfl) rfl ?_
      refine l_val (v_assign rfl) rfl ?_
      refine l_nil ?_
      refine a_normal ?_
      refine w_cond rfl (fun hc => ?_) (fun hc => ?_)
      rotate_left
      · cases hc
      refine w_seq ?_
      refine w_region rfl ?_
      refine l_val (v_load rfl trivial) rfl ?_
      refine l_val (v_assign rfl) rfl ?_
      refine l_val (v_assign rfl) rfl ?_
      refine l_nil ?_
      refine a_normal ?_
      refine w_ret ?_
      refine a_bret ?_
      refine a_tret ?_
      exact a_retD (ts := [2, 3]) H rfl rfl ⟨rfl, rfl⟩
    · skip
      cases hg2

theorem number_errno (hG : B.cell? ⟨0, 0, none⟩ = some (rty 55)) (k : Nat) (H : HP) : Fn Tryd.prog B 29 [eno k] H (fun v H' => v = .int .i64 k ∧ H' = H) := by
  refine fn_intro Tryd.func29 rfl rfl rfl ?_
  refine w_seq ?_
  refine w_region rfl ?_
  refine l_val (v_assign (v := .int .i64 (0 : Nat)) rfl) rfl ?_
  refine l_nil ?_
  refine a_normal ?_
  refine w_seq ?_
  refine w_region rfl ?_
  refine l_val (v_move rfl) rfl ?_
  refine l_eff (e_call rfl (told_errno hG k _)) rfl ?_
  rintro _ _ ⟨rfl, rfl⟩
  refine l_val (v_move rfl) rfl ?_
  refine l_val (v_extract rfl rfl) rfl ?_
  refine l_val (v_extract rfl rfl) rfl ?_
  refine l_val (v_assign rfl) rfl ?_
  refine l_val (v_assign rfl) rfl ?_
  refine l_nil ?_
  refine a_normal ?_
  refine w_seq ?_
  refine w_region rfl ?_
  refine l_val (v_move rfl) rfl ?_
  refine l_val (v_assign rfl) rfl ?_
  refine l_nil ?_
  refine a_normal ?_
  refine w_ret ?_
  exact a_ret (ts := [2]) rfl rfl ⟨rfl, rfl⟩

theorem told_fault (hG : B.cell? ⟨0, 0, none⟩ = some (rty 55)) (q k : Nat) (at_ : Value) (R : HP) : Fn Tryd.prog B 34 [flt q] (fltH q k at_ * R) (fun v H' => v = .tuple #[.int .i64 k, at_] ∧ H' = fltH q k at_ * R) := by
  refine fn_intro Tryd.func34 rfl rfl rfl ?_
  refine w_seq ?_
  refine w_region rfl ?_
  refine l_val (v_assign (v := .int .i64 (0 : Nat)) rfl) rfl ?_
  refine l_val (v_assign (v := .int .i64 (0 : Nat)) rfl) rfl ?_
  refine l_nil ?_
  refine a_normal ?_
  refine w_seq ?_
  refine w_region rfl ?_
  refine l_eff (e_alloc (l := [_]) rfl) rfl ?_
  rintro _ _ ⟨b4, rfl, rfl⟩
  refine l_nil ?_
  refine a_normal ?_
  refine w_seq ?_
  refine w_region rfl ?_
  refine l_eff (e_alloc (l := [_]) rfl) rfl ?_
  rintro _ _ ⟨b5, rfl, rfl⟩
  refine l_nil ?_
  refine a_normal ?_
  refine w_seq ?_
  refine w_block ?_
  refine w_seq ?_
  refine w_region rfl ?_
  refine l_val (v_move rfl) rfl ?_
  refine l_val (v_bin (r := .bool false) rfl rfl (fun w => by kernel_rfl) (fun w => by kernel_rfl)) rfl ?_
  refine l_val (v_assign rfl) rfl ?_
  refine l_nil ?_
  refine a_normal ?_
  refine w_cond rfl (fun hc => ?_) (fun hc => ?_)
  · cases hc
  refine w_seq ?_
  refine w_region rfl ?_
  refine l_val (v_move rfl) rfl ?_
  refine l_val (v_makeIface (by kernel_rfl) rfl) rfl ?_
  refine l_heap (HP.left_comm _ _ _) ?_
  refine l_eff (e_call rfl (As_hitF hG q _ b4 _)) rfl ?_
  rintro _ _ ⟨rfl, rfl⟩
  refine l_val (v_move rfl) rfl ?_
  refine l_caseB 13 rfl (fun hg1 => ?_) (fun hg1 => ?_)
  · skip
    refine l_gY rfl rfl rfl hg1 ?_
    refine l_val (v_move rfl) rfl ?_
    refine l_gY rfl rfl rfl hg1 ?_
    refine l_val (v_load rfl trivial) rfl ?_
    refine l_gY rfl rfl rfl hg1 ?_
    refine l_val (v_nilCheck rfl) rfl ?_
    refine l_gY rfl rfl rfl hg1 ?_
    refine l_val (v_fieldAddr rfl) rfl ?_
    refine l_gY rfl rfl rfl hg1 ?_
    refine l_val (v_load rfl trivial) rfl ?_
    refine l_gY rfl rfl rfl hg1 ?_
    refine l_val (v_makeIface (by kernel_rfl) rfl) rfl ?_
    refine l_heap (H' := fltH q k at_ * (HP.pts b4 0 [ptr q 0] * (HP.pts b5 0 [.int .i64 0] * R))) (by ac_rfl) ?_
    refine l_gY rfl rfl rfl hg1 ?_
    refine l_eff (e_call rfl (Is_fault q k at_ _)) rfl ?_
    rintro _ _ ⟨rfl, rfl⟩
    refine l_val (v_pickY hg1 rfl rfl) rfl ?_
    refine l_val (v_assign rfl) rfl ?_
    refine l_nil ?_
    refine a_normal ?_
    refine w_cond rfl (fun hc => ?_) (fun hc => ?_)
    rotate_left
    · cases hc
    refine w_seq ?_
    refine w_anyH 10 10 mixed rfl (by kernel_rfl) ?_
    refine s_take 0 rfl (by kernel_rfl) rfl (v_load rfl trivial) ?_
    refine s_take 1 rfl (by kernel_rfl) rfl (v_nilCheck rfl) ?_
    refine s_take 2 rfl (by kernel_rfl) rfl (v_fieldAddr rfl) ?_
    refine s_take 3 rfl (by kernel_rfl) rfl (v_load rfl trivial) ?_
    refine s_take 4 rfl (by kernel_rfl) rfl (v_load rfl trivial) ?_
    refine s_take 5 rfl (by kernel_rfl) rfl (v_nilCheck rfl) ?_
    refine s_take 6 rfl (by kernel_rfl) rfl (v_fieldAddr rfl) ?_
    refine s_take 7 rfl (by kernel_rfl) rfl (v_load rfl trivial) ?_
    refine s_take 8 rfl (by kernel_rfl) rfl (v_assign rfl) ?_
    refine s_take 9 rfl (by kernel_rfl) rfl (v_assign rfl) ?_
    refine s_done (by kernel_rfl) ?_
    refine a_normal ?_
    refine w_ret ?_
    refine a_bret ?_
    refine a_tret ?_
    exact a_retD (ts := [2, 3]) (fltH q k at_ * R) rfl rfl ⟨rfl, rfl⟩
  · skip
    cases hg1

theorem number_fault (hG : B.cell? ⟨0, 0, none⟩ = some (rty 55)) (q k : Nat) (at_ : Value) (R : HP) : Fn Tryd.prog B 29 [flt q] (fltH q k at_ * R) (fun v H' => v = .int .i64 k ∧ H' = fltH q k at_ * R) := by
  refine fn_intro Tryd.func29 rfl rfl rfl ?_
  refine w_seq ?_
  refine w_region rfl ?_
  refine l_val (v_assign (v := .int .i64 (0 : Nat)) rfl) rfl ?_
  refine l_nil ?_
  refine a_normal ?_
  refine w_seq ?_
  refine w_region rfl ?_
  refine l_val (v_move rfl) rfl ?_
  refine l_eff (e_call rfl (told_fault hG q k at_ _)) rfl ?_
  rintro _ _ ⟨rfl, rfl⟩
  refine l_val (v_move rfl) rfl ?_
  refine l_val (v_extract rfl rfl) rfl ?_
  refine l_val (v_extract rfl rfl) rfl ?_
  refine l_val (v_assign rfl) rfl ?_
  refine l_val (v_assign rfl) rfl ?_
  refine l_nil ?_
  refine a_normal ?_
  refine w_seq ?_
  refine w_region rfl ?_
  refine l_val (v_move rfl) rfl ?_
  refine l_val (v_assign rfl) rfl ?_
  refine l_nil ?_
  refine a_normal ?_
  refine w_ret ?_
  exact a_ret (ts := [2]) rfl rfl ⟨rfl, rfl⟩

theorem punseal_none (hG : B.cell? ⟨0, 0, none⟩ = some (rty 55)) (ks : List UInt8) (hk : ks.length = 16) (first : Bool) (xs : List UInt8) (p : Option Addr) (b o c : Nat) (H : HP) (hs : Sl p b o xs.length c) (hr : RdA B H b o xs) (hx : xs.length < 90000000) (hop : openL ks (sideB first) xs = none) :
    Fn Tryd.prog B 11 [.agg (flat ks).toArray, .bool first, .slice p xs.length c] H (fun v H' => v = .tuple #[u64 0, .slice none 0 0, .int .i64 4] ∧ H' = H) := by
  refine fn_intro Tryd.func11 rfl rfl rfl ?_
  refine w_seq ?_
  refine w_region rfl ?_
  refine l_eff (e_box (l := flat ks) rfl rfl) rfl ?_
  rintro _ _ ⟨b3, rfl, rfl⟩
  refine l_val (v_assign (v := .int .u64 (0 : Nat)) rfl) rfl ?_
  refine l_val (v_assign rfl) rfl ?_
  refine l_val (v_assign (v := .int .i64 (0 : Nat)) rfl) rfl ?_
  refine l_nil ?_
  refine a_normal ?_
  refine w_seq ?_
  refine w_region rfl ?_
  refine l_val (v_move rfl) rfl ?_
  refine l_heap (H' := arr 0 0 ([] : List UInt8) [] * (HP.pts b3 0 (flat ks) * H)) (by rw [arr_nil, HP.emp_mul]) ?_
  refine l_eff (e_append (p := none) (c := 0) (ys := xs) (bb := b) (oo := o) rfl ⟨.inl rfl, Nat.le_refl _⟩ rfl rfl hs inferInstance rfl (by simp; omega) (by omega)) rfl ?_
  rintro _ _ ⟨p14, b14, o14, c14, s14, rfl, hs14, hc14, rfl⟩
  rw [List.nil_append] at hs14 hc14 ⊢
  refine l_val (v_assign rfl) rfl ?_
  refine l_nil ?_
  refine a_normal ?_
  refine w_seq ?_
  refine w_region rfl ?_
  refine l_val (v_loadA rfl (flat16 hk)) rfl ?_
  refine l_val (v_move rfl) rfl ?_
  refine l_val (v_move rfl) rfl ?_
  refine l_eff (e_call rfl (tunseal_none ks hk first xs p14 b14 o14 c14 _ hs14 inferInstance hx hop)) rfl ?_
  rintro _ _ ⟨rfl, rfl⟩
  refine l_val (v_move rfl) rfl ?_
  refine l_val (v_extract rfl rfl) rfl ?_
  refine l_val (v_extract rfl rfl) rfl ?_
  refine l_val (v_extract rfl rfl) rfl ?_
  refine l_val (v_assign rfl) rfl ?_
  refine l_val (v_assign rfl) rfl ?_
  refine l_val (v_assign rfl) rfl ?_
  refine l_nil ?_
  refine a_normal ?_
  refine w_seq ?_
  refine w_region rfl ?_
  refine l_val (v_move rfl) rfl ?_
  refine l_eff (e_call rfl (scribble_spec p14 b14 o14 c14 xs.length xs s14 _ hs14 rfl (by omega))) rfl ?_
  rintro _ _ ⟨ys, hys, rfl⟩
  refine l_nil ?_
  refine a_normal ?_
  refine w_seq ?_
  refine w_region rfl ?_
  refine l_val (v_move rfl) rfl ?_
  refine l_val (v_move rfl) rfl ?_
  refine l_val (v_move rfl) rfl ?_
  refine l_eff (e_call rfl (number_errno hG 4 _)) rfl ?_
  rintro _ _ ⟨rfl, rfl⟩
  refine l_val (v_assign rfl) rfl ?_
  refine l_val (v_assign rfl) rfl ?_
  refine l_val (v_assign rfl) rfl ?_
  refine l_nil ?_
  refine a_normal ?_
  refine w_ret ?_
  exact a_retD (ts := [6, 7, 8]) H rfl rfl ⟨rfl, rfl⟩

theorem punseal_some (ks : List UInt8) (hk : ks.length = 16) (first : Bool) (xs : List UInt8) (n : UInt64) (ys : List UInt8) (p : Option Addr) (b o c : Nat) (H : HP) (hs : Sl p b o xs.length c) (hr : RdA B H b o xs) (hx : xs.length < 90000000) (hop : openL ks (sideB first) xs = some (n, ys)) :
    Fn Tryd.prog B 11 [.agg (flat ks).toArray, .bool first, .slice p xs.length c] H (fun v H' => ∃ sv, v = .tuple #[u64 n, sv, .int .i64 0] ∧ ((ys = [] ∧ sv = .slice none 0 0 ∧ H' = H) ∨ (ys ≠ [] ∧ IsSl H ys sv H'))) := by
  refine fn_intro Tryd.func11 rfl rfl rfl ?_
  refine w_seq ?_
  refine w_region rfl ?_
  refine l_eff (e_box (l := flat ks) rfl rfl) rfl ?_
  rintro _ _ ⟨b3, rfl, rfl⟩
  refine l_val (v_assign (v := .int .u64 (0 : Nat)) rfl) rfl ?_
  refine l_val (v_assign rfl) rfl ?_
  refine l_val (v_assign (v := .int .i64 (0 : Nat)) rfl) rfl ?_
  refine l_nil ?_
  refine a_normal ?_
  refine w_seq ?_
  refine w_region rfl ?_
  refine l_val (v_move rfl) rfl ?_
  refine l_heap (H' := arr 0 0 ([] : List UInt8) [] * (HP.pts b3 0 (flat ks) * H)) (by rw [arr_nil, HP.emp_mul]) ?_
  refine l_eff (e_append (p := none) (c := 0) (ys := xs) (bb := b) (oo := o) rfl ⟨.inl rfl, Nat.le_refl _⟩ rfl rfl hs inferInstance rfl (by simp; omega) (by omega)) rfl ?_
  rintro _ _ ⟨p14, b14, o14, c14, s14, rfl, hs14, hc14, rfl⟩
  rw [List.nil_append] at hs14 hc14 ⊢
  refine l_val (v_assign rfl) rfl ?_
  refine l_nil ?_
  refine a_normal ?_
  refine w_seq ?_
  refine w_region rfl ?_
  refine l_val (v_loadA rfl (flat16 hk)) rfl ?_
  refine l_val (v_move rfl) rfl ?_
  refine l_val (v_move rfl) rfl ?_
  refine l_eff (e_call rfl (tunseal_some ks hk first xs n ys p14 b14 o14 c14 _ hs14 inferInstance hx hop)) rfl ?_
  rintro _ H0 ⟨sv, rfl, hsv⟩
  obtain ⟨H19, hH19, hsw⟩ : ∃ H19 : HP, H0 = H19 * (arr b14 o14 xs s14 * (HP.pts b3 0 (flat ks) * H)) ∧ ((ys = [] ∧ sv = .slice none 0 0 ∧ H19 = HP.emp) ∨ (ys ≠ [] ∧ IsSl HP.emp ys sv H19)) := by
    rcases hsv with ⟨h1, h2, h3⟩ | ⟨h1, p', b', o', c', s', h2, h3, h4, h5⟩
    · exact ⟨HP.emp, (by rw [h3, HP.emp_mul]), .inl ⟨h1, h2, rfl⟩⟩
    · exact ⟨arr b' o' ys s', h5, .inr ⟨h1, p', b', o', c', s', h2, h3, h4, (HP.mul_emp _).symm⟩⟩
  subst hH19
  refine l_val (v_move rfl) rfl ?_
  refine l_val (v_extract rfl rfl) rfl ?_
  refine l_val (v_extract rfl rfl) rfl ?_
  refine l_val (v_extract rfl rfl) rfl ?_
  refine l_val (v_assign rfl) rfl ?_
  refine l_val (v_assign rfl) rfl ?_
  refine l_val (v_assign rfl) rfl ?_
  refine l_nil ?_
  refine a_normal ?_
  refine w_seq ?_
  refine w_region rfl ?_
  refine l_val (v_move rfl) rfl ?_
  refine l_heap (HP.left_comm _ _ _) ?_
  refine l_eff (e_call rfl (scribble_spec p14 b14 o14 c14 xs.length xs s14 _ hs14 rfl (by omega))) rfl ?_
  rintro _ _ ⟨zs, hzs, rfl⟩
  refine l_nil ?_
  refine a_normal ?_
  refine w_seq ?_
  refine w_region rfl ?_
  refine l_val (v_move rfl) rfl ?_
  refine l_val (v_move rfl) rfl ?_
  refine l_val (v_move rfl) rfl ?_
  refine l_eff (e_call rfl (number_nil _)) rfl ?_
  rintro _ _ ⟨rfl, rfl⟩
  refine l_val (v_assign rfl) rfl ?_
  refine l_val (v_assign rfl) rfl ?_
  refine l_val (v_assign rfl) rfl ?_
  refine l_nil ?_
  refine a_normal ?_
  refine w_ret ?_
  exact a_retD (ts := [6, 7, 8]) (H19 * H) rfl rfl ⟨_, rfl, by
      rcases hsw with ⟨h1, h2, h3⟩ | ⟨h1, p', b', o', c', s', h2, h3, h4, h5⟩
      · exact .inl ⟨h1, h2, by rw [h3, HP.emp_mul]⟩
      · exact .inr ⟨h1, p', b', o', c', s', h2, h3, h4, by rw [h5, HP.mul_emp]⟩⟩
end Go.Proofs.YtgfdlpcdjklcoaaDoor
