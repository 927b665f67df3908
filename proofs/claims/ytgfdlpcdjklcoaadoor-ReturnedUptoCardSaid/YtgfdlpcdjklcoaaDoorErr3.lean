/- errors.As and errors.Is at this program's errors; no condition. -/
import Derived.Test.YtgfdlpcdjklcoaaDoorErr2
namespace Go.Proofs.YtgfdlpcdjklcoaaDoor
open Go Go.RowKit Go.Extern.Stop Go.Stop Go.Extern
set_option linter.unusedVariables false
set_option maxRecDepth 20000
variable {B : World}
abbrev eno (k : Nat) : Value := .iface 31 (.int .i64 k)
abbrev rty (t : TypeId) : Value := .iface 138 (.agg #[.pointer (some ⟨1, t, none⟩)])

theorem as_miss (k : Nat) (tg a1 a2 a3 : Value) (H : HP) : Fn Tryd.prog B 68 [eno k, tg, .agg #[a1, a2, a3], rty 84] H (fun v H' => v = .bool false ∧ H' = H) := by
  refine fn_intro Tryd.func68 rfl rfl rfl ?_
  refine w_seq ?_
  refine w_region rfl ?_
  refine l_eff (e_box (l := [a1, a2, a3]) rfl rfl) rfl ?_
  rintro _ _ ⟨b6, rfl, rfl⟩
  refine l_val (v_assign rfl) rfl ?_
  refine l_nil ?_
  refine a_normal ?_
  refine w_block ?_
  refine w_loop (fun _ : Unit => [(0, eno k), (1, tg), (3, rty 84), (6, ptr b6 0)]) (fun _ => HP.pts b6 0 [a1, a2, a3] * H) (fun _ => True) (fun _ => 0) () trivial (.cons rfl (.cons rfl (.cons rfl (.cons rfl .nil)))) rfl ?_
  intro _ _
  refine w_block ?_
  refine w_seq ?_
  refine w_seq ?_
  refine w_region rfl ?_
  refine l_val (v_move rfl) rfl ?_
  refine l_val (v_ext rfl (fun w _ => er_typeOf31 _ w)) rfl ?_
  refine l_val (v_move rfl) rfl ?_
  refine l_val (v_inv rfl rfl (fun w _ => er_assign31_84 w)) rfl ?_
  refine l_nil ?_
  refine a_normal ?_
  refine w_cond rfl (fun hc => ?_) (fun hc => ?_)
  · cases hc
  refine w_skip ?_
  refine a_normal ?_
  refine w_seq ?_
  refine w_seq ?_
  refine w_region rfl ?_
  refine l_val (v_move rfl) rfl ?_
  refine l_val (v_assert (v := .tuple #[.nilIface, .bool false]) rfl (run_typeAssert_lacksB TyOf.get (by kernel_rfl) (by kernel_rfl) _ _)) rfl ?_
  refine l_val (v_move rfl) rfl ?_
  refine l_val (v_extract rfl rfl) rfl ?_
  refine l_val (v_extract rfl rfl) rfl ?_
  refine l_val (v_assign rfl) rfl ?_
  refine l_val (v_assign rfl) rfl ?_
  refine l_nil ?_
  refine a_normal ?_
  refine w_seq ?_
  refine w_region rfl ?_
  refine l_val (v_move rfl) rfl ?_
  refine l_val (v_move rfl) rfl ?_
  refine l_caseB 31 rfl (fun hg1 => ?_) (fun hg1 => ?_)
  · skip
    cases hg1
  · skip
    refine l_gN rfl rfl rfl hg1 ?_
    refine l_gN rfl rfl rfl hg1 ?_
    refine l_gN rfl rfl rfl hg1 ?_
    refine l_val (v_pickN hg1 rfl rfl) rfl ?_
    refine l_nil ?_
    refine a_normal ?_
    refine w_condN rfl rfl ?_
    refine w_skip ?_
    refine a_normal ?_
    refine w_seq ?_
    refine w_region rfl ?_
    refine l_val (v_move rfl) rfl ?_
    refine l_nil ?_
    refine a_normal ?_
    refine w_block ?_
    refine w_seq ?_
    refine w_region rfl ?_
    refine l_val (v_assert (v := .tuple #[.nilIface, .bool false]) rfl (run_typeAssert_lacksB TyOf.get (by kernel_rfl) (by kernel_rfl) _ _)) rfl ?_
    refine l_val (v_extract rfl rfl) rfl ?_
    refine l_val (v_extract rfl rfl) rfl ?_
    refine l_nil ?_
    refine a_normal ?_
    refine w_cond rfl (fun hc => ?_) (fun hc => ?_)
    · cases hc
    refine w_seq ?_
    refine w_region rfl ?_
    refine l_val (v_assert (v := .tuple #[.nilIface, .bool false]) rfl (run_typeAssert_lacksB TyOf.get (by kernel_rfl) (by kernel_rfl) _ _)) rfl ?_
    refine l_val (v_extract rfl rfl) rfl ?_
    refine l_val (v_extract rfl rfl) rfl ?_
    refine l_nil ?_
    refine a_normal ?_
    refine w_cond rfl (fun hc => ?_) (fun hc => ?_)
    · cases hc
    refine w_seq ?_
    refine w_region rfl ?_
    refine l_val (v_assign rfl) rfl ?_
    refine l_nil ?_
    refine a_normal ?_
    refine w_seq ?_
    refine w_region rfl ?_
    refine l_val (v_assign rfl) rfl ?_
    refine l_nil ?_
    refine a_normal ?_
    refine w_ret ?_
    refine a_bret ?_
    refine a_bret ?_
    refine a_tret ?_
    refine a_bret ?_
    exact a_retD (ts := [8]) H rfl rfl ⟨rfl, rfl⟩

theorem as_hit (k : Nat) (tg old : Value) (b5 b14 : Nat) (R : HP) : Fn Tryd.prog B 68 [eno k, tg, .agg #[.pointer (some ⟨1, 90, none⟩), ptr b14 0, .int .u64 150], rty 31] (HP.pts b5 0 [old] * (HP.pts b14 0 [ptr b5 0] * R))
    (fun v H' => v = .bool true ∧ H' = HP.pts b5 0 [.int .i64 k] * (HP.pts b14 0 [ptr b5 0] * R)) := by
  refine fn_intro Tryd.func68 rfl rfl rfl ?_
  refine w_seq ?_
  refine w_region rfl ?_
  refine l_eff (e_box (l := [.pointer (some ⟨1, 90, none⟩), ptr b14 0, .int .u64 150]) rfl rfl) rfl ?_
  rintro _ _ ⟨b6, rfl, rfl⟩
  refine l_val (v_assign rfl) rfl ?_
  refine l_nil ?_
  refine a_normal ?_
  refine w_block ?_
  refine w_loop (fun _ : Unit => [(0, eno k), (1, tg), (3, rty 31), (6, ptr b6 0)]) (fun _ => HP.pts b6 0 [.pointer (some ⟨1, 90, none⟩), ptr b14 0, .int .u64 150] * (HP.pts b5 0 [old] * (HP.pts b14 0 [ptr b5 0] * R))) (fun _ => True) (fun _ => 0) () trivial (.cons rfl (.cons rfl (.cons rfl (.cons rfl .nil)))) rfl ?_
  intro _ _
  refine w_block ?_
  refine w_seq ?_
  refine w_seq ?_
  refine w_region rfl ?_
  refine l_val (v_move rfl) rfl ?_
  refine l_val (v_ext rfl (fun w _ => er_typeOf31 _ w)) rfl ?_
  refine l_val (v_move rfl) rfl ?_
  refine l_val (v_inv rfl rfl (fun w _ => er_assign31 w)) rfl ?_
  refine l_nil ?_
  refine a_normal ?_
  refine w_cond rfl (fun hc => ?_) (fun hc => ?_)
  rotate_left
  · cases hc
  refine w_seq ?_
  refine w_region rfl ?_
  refine l_val (v_loadA rfl rfl) rfl ?_
  refine l_val (v_ext (v := .agg #[.pointer (some ⟨1, 31, none⟩), ptr b5 0, .int .u64 386]) rfl (fun w hw => er_elemV90 ⟨b14, 0, none⟩ ⟨b5, 0, none⟩ w ((inferInstance : Rd B (HP.pts b6 0 [.pointer (some ⟨1, 90, none⟩), ptr b14 0, .int .u64 150] * (HP.pts b5 0 [old] * (HP.pts b14 0 [ptr b5 0] * R))) b14 0 (ptr b5 0) True).get w hw trivial))) rfl ?_
  refine l_val (v_move rfl) rfl ?_
  refine l_eff (e_ext (Post := fun v H' => ∃ b, v = .agg #[.pointer (some ⟨1, 31, none⟩), ptr b 0, .int .u64 130] ∧ H' = HP.pts b 0 [.int .i64 k] * (HP.pts b6 0 [.pointer (some ⟨1, 90, none⟩), ptr b14 0, .int .u64 150] * (HP.pts b5 0 [old] * (HP.pts b14 0 [ptr b5 0] * R)))) rfl (fun w hw => ⟨_, _, _, er_valueOf31 _ w, ⟨w.heap.size, rfl, rfl⟩, hw.alloc _ _⟩)) rfl ?_
  rintro _ _ ⟨b23, rfl, rfl⟩
  refine l_eff (e_ext (Post := fun v H' => H' = HP.pts b23 0 [.int .i64 k] * (HP.pts b6 0 [.pointer (some ⟨1, 90, none⟩), ptr b14 0, .int .u64 150] * (HP.pts b5 0 [.int .i64 k] * (HP.pts b14 0 [ptr b5 0] * R)))) rfl (fun w hw => by
  have hb := (inferInstance : Rd B (HP.pts b23 0 [.int .i64 k] * (HP.pts b6 0 [.pointer (some ⟨1, 90, none⟩), ptr b14 0, .int .u64 150] * (HP.pts b5 0 [old] * (HP.pts b14 0 [ptr b5 0] * R)))) b23 0 (.int .i64 k) True).get w hw trivial
  obtain ⟨⟨u, hu⟩, hf, hs⟩ := Sat.store (v := .int .i64 k) (H' := HP.pts b23 0 [.int .i64 k] * (HP.pts b6 0 [.pointer (some ⟨1, 90, none⟩), ptr b14 0, .int .u64 150] * (HP.pts b5 0 [.int .i64 k] * (HP.pts b14 0 [ptr b5 0] * R)))) (s := True) (b := b5) (i := 0) inferInstance hw trivial
  exact ⟨_, _, _, er_set31 ⟨b5, 0, none⟩ ⟨b23, 0, none⟩ k u w hb hu hf, rfl, hs⟩)) rfl ?_
  rintro _ _ rfl
  refine l_nil ?_
  refine a_normal ?_
  refine w_seq ?_
  refine w_region rfl ?_
  refine l_val (v_assign rfl) rfl ?_
  refine l_nil ?_
  refine a_normal ?_
  refine w_ret ?_
  refine a_tret ?_
  refine a_bret ?_
  refine a_tret ?_
  refine a_bret ?_
  exact a_retD (ts := [8]) (HP.pts b5 0 [.int .i64 k] * (HP.pts b14 0 [ptr b5 0] * R)) rfl rfl ⟨rfl, rfl⟩

theorem As_miss (hG : B.cell? ⟨0, 0, none⟩ = some (rty 55)) (k : Nat) (old : Value) (b4 : Nat) (R : HP) : Fn Tryd.prog B 48 [eno k, .iface 86 (ptr b4 0)] (HP.pts b4 0 [old] * R) (fun v H' => v = .bool false ∧ H' = HP.pts b4 0 [old] * R) := by
  refine fn_intro Tryd.func48 rfl rfl rfl ?_
  refine w_seq ?_
  refine w_region rfl ?_
  refine l_val (v_assign rfl) rfl ?_
  refine l_nil ?_
  refine a_normal ?_
  refine w_seq ?_
  refine w_seq ?_
  refine w_region rfl ?_
  refine l_val (v_move rfl) rfl ?_
  refine l_val (v_bin (r := .bool false) rfl rfl (fun w => by kernel_rfl) (fun w => by kernel_rfl)) rfl ?_
  refine l_nil ?_
  refine a_normal ?_
  refine w_cond rfl (fun hc => ?_) (fun hc => ?_)
  · cases hc
  refine w_skip ?_
  refine a_normal ?_
  refine w_seq ?_
  refine w_seq ?_
  refine w_region rfl ?_
  refine l_val (v_move rfl) rfl ?_
  refine l_val (v_bin (r := .bool false) rfl rfl (fun w => by kernel_rfl) (fun w => by kernel_rfl)) rfl ?_
  refine l_nil ?_
  refine a_normal ?_
  refine w_cond rfl (fun hc => ?_) (fun hc => ?_)
  · cases hc
  refine w_skip ?_
  refine a_normal ?_
  refine w_seq ?_
  refine w_region rfl ?_
  refine l_val (v_move rfl) rfl ?_
  refine l_eff (e_ext (Post := fun v H' => ∃ b, v = .agg #[.pointer (some ⟨1, 86, none⟩), ptr b 0, .int .u64 150] ∧ H' = HP.pts b 0 [ptr b4 0] * (HP.pts b4 0 [old] * R)) rfl (fun w hw => ⟨_, _, _, er_valueOf86 _ w, ⟨w.heap.size, rfl, rfl⟩, hw.alloc _ _⟩)) rfl ?_
  rintro _ _ ⟨b14, rfl, rfl⟩
  refine l_eff (e_alloc (l := [_, _, _]) rfl) rfl ?_
  rintro _ _ ⟨b5, rfl, rfl⟩
  refine l_eff0 (e_storeA rfl rfl (by constructor <;> rfl) (by simp [Value.oneCell'])) ?_
  rintro _ _ ⟨rfl, rfl⟩
  refine l_nil ?_
  refine a_normal ?_
  refine w_seq ?_
  refine w_region rfl ?_
  refine l_val (v_loadA rfl rfl) rfl ?_
  refine l_val (v_ext rfl (fun w _ => er_type86 _ w)) rfl ?_
  refine l_val (v_assign rfl) rfl ?_
  refine l_nil ?_
  refine a_normal ?_
  refine w_seq ?_
  refine w_seq ?_
  refine w_region rfl ?_
  refine l_val (v_move rfl) rfl ?_
  refine l_val (v_inv rfl rfl (fun w _ => er_kind86 w)) rfl ?_
  refine l_val (v_neq (i := 22) (j := 22) rfl rfl) rfl ?_
  refine l_val (v_move rfl) rfl ?_
  refine l_case 20 rfl (fun hg1 => ?_) (fun hg1 => ?_)
  · skip
    exact absurd rfl hg1
  · skip
    refine l_gY rfl rfl rfl (decide_eq_false hg1) ?_
    refine l_val (v_loadA rfl rfl) rfl ?_
    refine l_gY rfl rfl rfl (decide_eq_false hg1) ?_
    refine l_val (v_ext rfl (fun w hw => er_isNil86 ⟨b14, 0, none⟩ ⟨b4, 0, none⟩ w ((inferInstance : Rd B _ b14 0 (ptr b4 0) True).get w hw trivial))) rfl ?_
    refine l_val (v_pickN (decide_eq_false hg1) rfl rfl) rfl ?_
    refine l_nil ?_
    refine a_normal ?_
    refine w_cond rfl (fun hc => ?_) (fun hc => ?_)
    · cases hc
    refine w_skip ?_
    refine a_normal ?_
    refine w_seq ?_
    refine w_region rfl ?_
    refine l_val (v_move rfl) rfl ?_
    refine l_val (v_inv rfl rfl (fun w _ => er_elem86 w)) rfl ?_
    refine l_val (v_assign rfl) rfl ?_
    refine l_nil ?_
    refine a_normal ?_
    refine w_seq ?_
    refine w_seq ?_
    refine w_region rfl ?_
    refine l_val (v_move rfl) rfl ?_
    refine l_val (v_inv rfl rfl (fun w _ => er_kind84 w)) rfl ?_
    refine l_val (v_neq (i := 22) (j := 20) rfl rfl) rfl ?_
    refine l_val (v_move rfl) rfl ?_
    refine l_case 30 rfl (fun hg2 => ?_) (fun hg2 => ?_)
    · skip
      refine l_gY rfl rfl rfl (decide_eq_true hg2) ?_
      refine l_val (v_move rfl) rfl ?_
      refine l_gY rfl rfl rfl (decide_eq_true hg2) ?_
      refine l_val (v_load (hr := rd_base hG) rfl trivial) rfl ?_
      refine l_gY rfl rfl rfl (decide_eq_true hg2) ?_
      refine l_val (v_inv rfl rfl (fun w _ => er_impl86 w)) rfl ?_
      refine l_gY rfl rfl rfl (decide_eq_true hg2) ?_
      refine l_val (v_not rfl) rfl ?_
      refine l_val (v_pickY (decide_eq_true hg2) rfl rfl) rfl ?_
      refine l_nil ?_
      refine a_normal ?_
      refine w_cond rfl (fun hc => ?_) (fun hc => ?_)
      · cases hc
      refine w_skip ?_
      refine a_normal ?_
      refine w_seq ?_
      refine w_region rfl ?_
      refine l_val (v_move rfl) rfl ?_
      refine l_val (v_move rfl) rfl ?_
      refine l_val (v_loadA rfl rfl) rfl ?_
      refine l_val (v_move rfl) rfl ?_
      refine l_eff (e_call rfl (as_miss k _ _ _ _ _)) rfl ?_
      rintro _ _ ⟨rfl, rfl⟩
      refine l_val (v_assign rfl) rfl ?_
      refine l_nil ?_
      refine a_normal ?_
      refine w_ret ?_
      exact a_retD (ts := [4]) (HP.pts b4 0 [old] * R) rfl rfl ⟨rfl, rfl⟩
    · skip
      exact absurd (by decide) hg2

theorem As_hit (hG : B.cell? ⟨0, 0, none⟩ = some (rty 55)) (k : Nat) (old : Value) (b4 : Nat) (R : HP) : Fn Tryd.prog B 48 [eno k, .iface 90 (ptr b4 0)] (HP.pts b4 0 [old] * R) (fun v H' => v = .bool true ∧ H' = HP.pts b4 0 [.int .i64 k] * R) := by
  refine fn_intro Tryd.func48 rfl rfl rfl ?_
  refine w_seq ?_
  refine w_region rfl ?_
  refine l_val (v_assign rfl) rfl ?_
  refine l_nil ?_
  refine a_normal ?_
  refine w_seq ?_
  refine w_seq ?_
  refine w_region rfl ?_
  refine l_val (v_move rfl) rfl ?_
  refine l_val (v_bin (r := .bool false) rfl rfl (fun w => by kernel_rfl) (fun w => by kernel_rfl)) rfl ?_
  refine l_nil ?_
  refine a_normal ?_
  refine w_cond rfl (fun hc => ?_) (fun hc => ?_)
  · cases hc
  refine w_skip ?_
  refine a_normal ?_
  refine w_seq ?_
  refine w_seq ?_
  refine w_region rfl ?_
  refine l_val (v_move rfl) rfl ?_
  refine l_val (v_bin (r := .bool false) rfl rfl (fun w => by kernel_rfl) (fun w => by kernel_rfl)) rfl ?_
  refine l_nil ?_
  refine a_normal ?_
  refine w_cond rfl (fun hc => ?_) (fun hc => ?_)
  · cases hc
  refine w_skip ?_
  refine a_normal ?_
  refine w_seq ?_
  refine w_region rfl ?_
  refine l_val (v_move rfl) rfl ?_
  refine l_eff (e_ext (Post := fun v H' => ∃ b, v = .agg #[.pointer (some ⟨1, 90, none⟩), ptr b 0, .int .u64 150] ∧ H' = HP.pts b 0 [ptr b4 0] * (HP.pts b4 0 [old] * R)) rfl (fun w hw => ⟨_, _, _, er_valueOf90 _ w, ⟨w.heap.size, rfl, rfl⟩, hw.alloc _ _⟩)) rfl ?_
  rintro _ _ ⟨b14, rfl, rfl⟩
  refine l_eff (e_alloc (l := [_, _, _]) rfl) rfl ?_
  rintro _ _ ⟨b5, rfl, rfl⟩
  refine l_eff0 (e_storeA rfl rfl (by constructor <;> rfl) (by simp [Value.oneCell'])) ?_
  rintro _ _ ⟨rfl, rfl⟩
  refine l_nil ?_
  refine a_normal ?_
  refine w_seq ?_
  refine w_region rfl ?_
  refine l_val (v_loadA rfl rfl) rfl ?_
  refine l_val (v_ext rfl (fun w _ => er_type90 _ w)) rfl ?_
  refine l_val (v_assign rfl) rfl ?_
  refine l_nil ?_
  refine a_normal ?_
  refine w_seq ?_
  refine w_seq ?_
  refine w_region rfl ?_
  refine l_val (v_move rfl) rfl ?_
  refine l_val (v_inv rfl rfl (fun w _ => er_kind90 w)) rfl ?_
  refine l_val (v_neq (i := 22) (j := 22) rfl rfl) rfl ?_
  refine l_val (v_move rfl) rfl ?_
  refine l_case 20 rfl (fun hg1 => ?_) (fun hg1 => ?_)
  · skip
    exact absurd rfl hg1
  · skip
    refine l_gY rfl rfl rfl (decide_eq_false hg1) ?_
    refine l_val (v_loadA rfl rfl) rfl ?_
    refine l_gY rfl rfl rfl (decide_eq_false hg1) ?_
    refine l_val (v_ext rfl (fun w hw => er_isNil90 ⟨b14, 0, none⟩ ⟨b4, 0, none⟩ w ((inferInstance : Rd B _ b14 0 (ptr b4 0) True).get w hw trivial))) rfl ?_
    refine l_val (v_pickN (decide_eq_false hg1) rfl rfl) rfl ?_
    refine l_nil ?_
    refine a_normal ?_
    refine w_cond rfl (fun hc => ?_) (fun hc => ?_)
    · cases hc
    refine w_skip ?_
    refine a_normal ?_
    refine w_seq ?_
    refine w_region rfl ?_
    refine l_val (v_move rfl) rfl ?_
    refine l_val (v_inv rfl rfl (fun w _ => er_elem90 w)) rfl ?_
    refine l_val (v_assign rfl) rfl ?_
    refine l_nil ?_
    refine a_normal ?_
    refine w_seq ?_
    refine w_seq ?_
    refine w_region rfl ?_
    refine l_val (v_move rfl) rfl ?_
    refine l_val (v_inv rfl rfl (fun w _ => er_kind31 w)) rfl ?_
    refine l_val (v_neq (i := 2) (j := 20) rfl rfl) rfl ?_
    refine l_val (v_move rfl) rfl ?_
    refine l_case 30 rfl (fun hg2 => ?_) (fun hg2 => ?_)
    · skip
      refine l_gY rfl rfl rfl (decide_eq_true hg2) ?_
      refine l_val (v_move rfl) rfl ?_
      refine l_gY rfl rfl rfl (decide_eq_true hg2) ?_
      refine l_val (v_load (hr := rd_base hG) rfl trivial) rfl ?_
      refine l_gY rfl rfl rfl (decide_eq_true hg2) ?_
      refine l_val (v_inv rfl rfl (fun w _ => er_impl90 w)) rfl ?_
      refine l_gY rfl rfl rfl (decide_eq_true hg2) ?_
      refine l_val (v_not rfl) rfl ?_
      refine l_val (v_pickY (decide_eq_true hg2) rfl rfl) rfl ?_
      refine l_nil ?_
      refine a_normal ?_
      refine w_cond rfl (fun hc => ?_) (fun hc => ?_)
      · cases hc
      refine w_skip ?_
      refine a_normal ?_
      refine w_seq ?_
      refine w_region rfl ?_
      refine l_val (v_move rfl) rfl ?_
      refine l_val (v_move rfl) rfl ?_
      refine l_val (v_loadA rfl rfl) rfl ?_
      refine l_val (v_move rfl) rfl ?_
      refine l_heap (H' := HP.pts b4 0 [old] * (HP.pts b14 0 [ptr b4 0] * (HP.pts b5 0 [.pointer (some ⟨1, 90, none⟩), ptr b14 0, .int .u64 150] * R))) (by ac_rfl) ?_
      refine l_eff (e_call rfl (as_hit k _ old b4 b14 (HP.pts b5 0 [.pointer (some ⟨1, 90, none⟩), ptr b14 0, .int .u64 150] * R))) rfl ?_
      rintro _ _ ⟨rfl, rfl⟩
      refine l_val (v_assign rfl) rfl ?_
      refine l_nil ?_
      refine a_normal ?_
      refine w_ret ?_
      exact a_retD (ts := [4]) (HP.pts b4 0 [.int .i64 k] * R) rfl rfl ⟨rfl, rfl⟩
    · skip
      exact absurd (by decide) hg2

theorem er_eq31 (j k : Int) (w : World) : (binOp .eql 55 (.iface 31 (.int .i64 j)) (.iface 31 (.int .i64 k))).run Tryd.prog w = .ok (.bool (j == k)) w := by kernel_rfl

theorem is_same (k : Nat) (H : HP) : Fn Tryd.prog B 70 [eno k, eno k, .bool true] H (fun v H' => v = .bool true ∧ H' = H) := by
  refine fn_intro Tryd.func70 rfl rfl rfl ?_
  refine w_seq ?_
  refine w_region rfl ?_
  refine l_val (v_assign rfl) rfl ?_
  refine l_nil ?_
  refine a_normal ?_
  refine w_block ?_
  refine w_loop (fun _ : Unit => [(0, eno k), (1, eno k), (2, .bool true)]) (fun _ => H) (fun _ => True) (fun _ => 0) () trivial (.cons rfl (.cons rfl (.cons rfl .nil))) rfl ?_
  intro _ _
  refine w_block ?_
  refine w_seq ?_
  refine w_seq ?_
  refine w_region rfl ?_
  refine l_val (v_move rfl) rfl ?_
  refine l_val (v_move rfl) rfl ?_
  refine l_caseB 15 rfl (fun hg1 => ?_) (fun hg1 => ?_)
  · skip
    refine l_gY rfl rfl rfl hg1 ?_
    refine l_val (v_move rfl) rfl ?_
    refine l_gY rfl rfl rfl hg1 ?_
    refine l_val (v_move rfl) rfl ?_
    refine l_gY rfl rfl rfl hg1 ?_
    refine l_val (v_bin (r := .bool true) rfl rfl (fun w => by kernel_rfl) (fun w => by rw [er_eq31]; simp)) rfl ?_
    refine l_val (v_pickY hg1 rfl rfl) rfl ?_
    refine l_nil ?_
    refine a_normal ?_
    refine w_cond rfl (fun hc => ?_) (fun hc => ?_)
    rotate_left
    · cases hc
    refine w_seq ?_
    refine w_region rfl ?_
    refine l_val (v_assign rfl) rfl ?_
    refine l_nil ?_
    refine a_normal ?_
    refine w_ret ?_
    refine a_tret ?_
    refine a_bret ?_
    refine a_tret ?_
    refine a_bret ?_
    exact a_ret (ts := [6]) rfl rfl ⟨rfl, rfl⟩
  · skip
    cases hg1

theorem Is_same (k : Nat) (H : HP) : Fn Tryd.prog B 49 [eno k, eno k] H (fun v H' => v = .bool true ∧ H' = H) := by
  refine fn_intro Tryd.func49 rfl rfl rfl ?_
  refine w_seq ?_
  refine w_region rfl ?_
  refine l_val (v_assign rfl) rfl ?_
  refine l_nil ?_
  refine a_normal ?_
  refine w_seq ?_
  refine w_seq ?_
  refine w_region rfl ?_
  refine l_val (v_move rfl) rfl ?_
  refine l_val (v_bin (r := .bool false) rfl rfl (fun w => by kernel_rfl) (fun w => by kernel_rfl)) rfl ?_
  refine l_val (v_move rfl) rfl ?_
  refine l_caseB 8 rfl (fun hg1 => ?_) (fun hg1 => ?_)
  · skip
    cases hg1
  · skip
    refine l_gY rfl rfl rfl hg1 ?_
    refine l_val (v_move rfl) rfl ?_
    refine l_gY rfl rfl rfl hg1 ?_
    refine l_val (v_bin (r := .bool false) rfl rfl (fun w => by kernel_rfl) (fun w => by kernel_rfl)) rfl ?_
    refine l_val (v_pickN hg1 rfl rfl) rfl ?_
    refine l_nil ?_
    refine a_normal ?_
    refine w_cond rfl (fun hc => ?_) (fun hc => ?_)
    · cases hc
    refine w_skip ?_
    refine a_normal ?_
    refine w_seq ?_
    refine w_region rfl ?_
    refine l_val (v_move rfl) rfl ?_
    refine l_val (v_ext rfl (fun w _ => er_typeOf31 _ w)) rfl ?_
    refine l_val (v_inv rfl rfl (fun w _ => er_comp31 w)) rfl ?_
    refine l_val (v_assign rfl) rfl ?_
    refine l_nil ?_
    refine a_normal ?_
    refine w_seq ?_
    refine w_region rfl ?_
    refine l_val (v_move rfl) rfl ?_
    refine l_val (v_move rfl) rfl ?_
    refine l_val (v_move rfl) rfl ?_
    refine l_eff (e_call rfl (is_same k _)) rfl ?_
    rintro _ _ ⟨rfl, rfl⟩
    refine l_val (v_assign rfl) rfl ?_
    refine l_nil ?_
    refine a_normal ?_
    refine w_ret ?_
    exact a_ret (ts := [4]) rfl rfl ⟨rfl, rfl⟩
end Go.Proofs.YtgfdlpcdjklcoaaDoor
