/- Contracts of package sealstreamref: frames written; no condition. -/
import Derived.Test.YtgfdlpcdjklcoaaDoorRefWire1
namespace Go.Proofs.YtgfdlpcdjklcoaaDoor
open Go Go.RowKit
set_option linter.unusedVariables false
set_option maxRecDepth 20000
variable {B : World}

theorem rsound_spec (r : RF) (H : HP) (hm : Mod r) (hr : RdA B H r.b r.o r.f.ranges) :
    Fn Tryd.prog B 31 [.agg (encRF r).toArray] H (fun v H' => v = .bool (decide (okF r.f)) ∧ H' = H) := by
  refine fn_intro Tryd.func31 rfl rfl rfl ?_
  refine w_seq ?_
  refine w_region rfl ?_
  refine l_eff (e_box (l := encRF r) rfl rfl) rfl ?_
  rintro _ _ ⟨b1, rfl, rfl⟩
  refine l_val (v_assign rfl) rfl ?_
  refine l_nil ?_
  refine a_normal ?_
  refine w_seq ?_
  refine w_seq ?_
  refine w_region rfl ?_
  refine l_val (v_fieldAddr rfl) rfl ?_
  refine l_val (v_load rfl trivial) rfl ?_
  refine l_val (v_gtr (j := 4611686018427387903) rfl rfl) rfl ?_
  refine l_val (v_move rfl) rfl ?_
  refine l_case 8 rfl (fun hg1 => ?_) (fun hg1 => ?_)
  · skip
    refine l_gN rfl rfl rfl (decide_eq_true hg1) ?_
    refine l_gN rfl rfl rfl (decide_eq_true hg1) ?_
    refine l_gN rfl rfl rfl (decide_eq_true hg1) ?_
    refine l_val (v_pickY (decide_eq_true hg1) rfl rfl) rfl ?_
    refine l_val (v_move rfl) rfl ?_
    refine l_gN rfl rfl rfl rfl ?_
    refine l_gN rfl rfl rfl rfl ?_
    refine l_gN rfl rfl rfl rfl ?_
    refine l_val (v_pickY rfl rfl rfl) rfl ?_
    refine l_val (v_move rfl) rfl ?_
    refine l_gN rfl rfl rfl rfl ?_
    refine l_gN rfl rfl rfl rfl ?_
    refine l_gN rfl rfl rfl rfl ?_
    refine l_val (v_pickY rfl rfl rfl) rfl ?_
    refine l_nil ?_
    refine a_normal ?_
    refine w_condY rfl rfl ?_
    refine w_seq ?_
    refine w_region rfl ?_
    refine l_val (v_assign rfl) rfl ?_
    refine l_nil ?_
    refine a_normal ?_
    refine w_ret ?_
    refine a_tret ?_
    first
    | exact a_retD (ts := [2]) H rfl rfl ⟨congrArg Value.bool (decide_eq_false (fun h => by have := h.1; have := h.2.1; have := h.2.2.1; have := h.2.2.2.1; omega)).symm, rfl⟩
    | exact a_retD (ts := [2]) H rfl rfl ⟨congrArg Value.bool (decide_eq_false (fun h => by have h1 := (h.2.2.2.2.1.1 hk3).2 i hlt; unfold okR at h1; omega)).symm, rfl⟩
    | exact a_retD (ts := [2]) H rfl rfl ⟨congrArg Value.bool (decide_eq_decide.2 ⟨fun h => ⟨by omega, by omega, by omega, by omega, ⟨fun _ => ⟨List.length_pos_iff.1 h, hdone⟩, fun h5 => by omega⟩, by unfold kindOk; omega⟩, fun h => List.length_pos_iff.2 (h.2.2.2.2.1.1 hk3).1⟩), rfl⟩
    | exact a_retD (ts := [2]) H rfl rfl ⟨congrArg Value.bool (decide_eq_decide.2 ⟨fun h => ⟨by omega, by omega, by omega, by omega, ⟨fun h3 => by omega, fun _ => by omega⟩, by unfold kindOk; omega⟩, fun h => by have := h.2.2.2.2.1.2 hk5; omega⟩), rfl⟩
    | exact a_retD (ts := [2]) H rfl rfl ⟨congrArg Value.bool (decide_eq_decide.2 ⟨fun h => ⟨by omega, by omega, by omega, by omega, ⟨fun h3 => by omega, fun h5 => by omega⟩, by unfold kindOk; omega⟩, fun h => by have := h.2.2.2.2.2; unfold kindOk at this; omega⟩), rfl⟩
    | exact a_retD (ts := [2]) H rfl rfl ⟨congrArg Value.bool (decide_eq_false (fun h => by have := h.2.2.2.2.2; unfold kindOk at this; omega)).symm, rfl⟩
  · skip
    refine l_gY rfl rfl rfl (decide_eq_false hg1) ?_
    refine l_val (v_fieldAddr rfl) rfl ?_
    refine l_gY rfl rfl rfl (decide_eq_false hg1) ?_
    refine l_val (v_load rfl trivial) rfl ?_
    refine l_gY rfl rfl rfl (decide_eq_false hg1) ?_
    refine l_val (v_gtr (j := 4611686018427387903) rfl rfl) rfl ?_
    refine l_val (v_pickN (decide_eq_false hg1) rfl rfl) rfl ?_
    refine l_val (v_move rfl) rfl ?_
    refine l_case 13 rfl (fun hg2 => ?_) (fun hg2 => ?_)
    · skip
      refine l_gN rfl rfl rfl (decide_eq_true hg2) ?_
      refine l_gN rfl rfl rfl (decide_eq_true hg2) ?_
      refine l_gN rfl rfl rfl (decide_eq_true hg2) ?_
      refine l_val (v_pickY (decide_eq_true hg2) rfl rfl) rfl ?_
      refine l_val (v_move rfl) rfl ?_
      refine l_gN rfl rfl rfl rfl ?_
      refine l_gN rfl rfl rfl rfl ?_
      refine l_gN rfl rfl rfl rfl ?_
      refine l_val (v_pickY rfl rfl rfl) rfl ?_
      refine l_nil ?_
      refine a_normal ?_
      refine w_condY rfl rfl ?_
      refine w_seq ?_
      refine w_region rfl ?_
      refine l_val (v_assign rfl) rfl ?_
      refine l_nil ?_
      refine a_normal ?_
      refine w_ret ?_
      refine a_tret ?_
      first
      | exact a_retD (ts := [2]) H rfl rfl ⟨congrArg Value.bool (decide_eq_false (fun h => by have := h.1; have := h.2.1; have := h.2.2.1; have := h.2.2.2.1; omega)).symm, rfl⟩
      | exact a_retD (ts := [2]) H rfl rfl ⟨congrArg Value.bool (decide_eq_false (fun h => by have h1 := (h.2.2.2.2.1.1 hk3).2 i hlt; unfold okR at h1; omega)).symm, rfl⟩
      | exact a_retD (ts := [2]) H rfl rfl ⟨congrArg Value.bool (decide_eq_decide.2 ⟨fun h => ⟨by omega, by omega, by omega, by omega, ⟨fun _ => ⟨List.length_pos_iff.1 h, hdone⟩, fun h5 => by omega⟩, by unfold kindOk; omega⟩, fun h => List.length_pos_iff.2 (h.2.2.2.2.1.1 hk3).1⟩), rfl⟩
      | exact a_retD (ts := [2]) H rfl rfl ⟨congrArg Value.bool (decide_eq_decide.2 ⟨fun h => ⟨by omega, by omega, by omega, by omega, ⟨fun h3 => by omega, fun _ => by omega⟩, by unfold kindOk; omega⟩, fun h => by have := h.2.2.2.2.1.2 hk5; omega⟩), rfl⟩
      | exact a_retD (ts := [2]) H rfl rfl ⟨congrArg Value.bool (decide_eq_decide.2 ⟨fun h => ⟨by omega, by omega, by omega, by omega, ⟨fun h3 => by omega, fun h5 => by omega⟩, by unfold kindOk; omega⟩, fun h => by have := h.2.2.2.2.2; unfold kindOk at this; omega⟩), rfl⟩
      | exact a_retD (ts := [2]) H rfl rfl ⟨congrArg Value.bool (decide_eq_false (fun h => by have := h.2.2.2.2.2; unfold kindOk at this; omega)).symm, rfl⟩
    · skip
      refine l_gY rfl rfl rfl (decide_eq_false hg2) ?_
      refine l_val (v_fieldAddr rfl) rfl ?_
      refine l_gY rfl rfl rfl (decide_eq_false hg2) ?_
      refine l_val (v_load rfl trivial) rfl ?_
      refine l_gY rfl rfl rfl (decide_eq_false hg2) ?_
      refine l_val (v_lssZ (i := r.f.stream) (j := 0) rfl rfl) rfl ?_
      refine l_val (v_pickN (decide_eq_false hg2) rfl rfl) rfl ?_
      refine l_val (v_move rfl) rfl ?_
      refine l_case 18 rfl (fun hg3 => ?_) (fun hg3 => ?_)
      · skip
        refine l_gN rfl rfl rfl (decide_eq_true hg3) ?_
        refine l_gN rfl rfl rfl (decide_eq_true hg3) ?_
        refine l_gN rfl rfl rfl (decide_eq_true hg3) ?_
        refine l_val (v_pickY (decide_eq_true hg3) rfl rfl) rfl ?_
        refine l_nil ?_
        refine a_normal ?_
        refine w_condY rfl rfl ?_
        refine w_seq ?_
        refine w_region rfl ?_
        refine l_val (v_assign rfl) rfl ?_
        refine l_nil ?_
        refine a_normal ?_
        refine w_ret ?_
        refine a_tret ?_
        first
        | exact a_retD (ts := [2]) H rfl rfl ⟨congrArg Value.bool (decide_eq_false (fun h => by have := h.1; have := h.2.1; have := h.2.2.1; have := h.2.2.2.1; omega)).symm, rfl⟩
        | exact a_retD (ts := [2]) H rfl rfl ⟨congrArg Value.bool (decide_eq_false (fun h => by have h1 := (h.2.2.2.2.1.1 hk3).2 i hlt; unfold okR at h1; omega)).symm, rfl⟩
        | exact a_retD (ts := [2]) H rfl rfl ⟨congrArg Value.bool (decide_eq_decide.2 ⟨fun h => ⟨by omega, by omega, by omega, by omega, ⟨fun _ => ⟨List.length_pos_iff.1 h, hdone⟩, fun h5 => by omega⟩, by unfold kindOk; omega⟩, fun h => List.length_pos_iff.2 (h.2.2.2.2.1.1 hk3).1⟩), rfl⟩
        | exact a_retD (ts := [2]) H rfl rfl ⟨congrArg Value.bool (decide_eq_decide.2 ⟨fun h => ⟨by omega, by omega, by omega, by omega, ⟨fun h3 => by omega, fun _ => by omega⟩, by unfold kindOk; omega⟩, fun h => by have := h.2.2.2.2.1.2 hk5; omega⟩), rfl⟩
        | exact a_retD (ts := [2]) H rfl rfl ⟨congrArg Value.bool (decide_eq_decide.2 ⟨fun h => ⟨by omega, by omega, by omega, by omega, ⟨fun h3 => by omega, fun h5 => by omega⟩, by unfold kindOk; omega⟩, fun h => by have := h.2.2.2.2.2; unfold kindOk at this; omega⟩), rfl⟩
        | exact a_retD (ts := [2]) H rfl rfl ⟨congrArg Value.bool (decide_eq_false (fun h => by have := h.2.2.2.2.2; unfold kindOk at this; omega)).symm, rfl⟩
      · skip
        refine l_gY rfl rfl rfl (decide_eq_false hg3) ?_
        refine l_val (v_fieldAddr rfl) rfl ?_
        refine l_gY rfl rfl rfl (decide_eq_false hg3) ?_
        refine l_val (v_load rfl trivial) rfl ?_
        refine l_gY rfl rfl rfl (decide_eq_false hg3) ?_
        refine l_val (v_geqZ (i := r.f.stream) (j := 4) rfl rfl) rfl ?_
        refine l_val (v_pickN (decide_eq_false hg3) rfl rfl) rfl ?_
        refine l_nil ?_
        refine a_normal ?_
        refine w_condD rfl (fun hs4 => ?_) (fun hs4 => ?_)
        · skip
          refine w_seq ?_
          refine w_region rfl ?_
          refine l_val (v_assign rfl) rfl ?_
          refine l_nil ?_
          refine a_normal ?_
          refine w_ret ?_
          refine a_tret ?_
          first
          | exact a_retD (ts := [2]) H rfl rfl ⟨congrArg Value.bool (decide_eq_false (fun h => by have := h.1; have := h.2.1; have := h.2.2.1; have := h.2.2.2.1; omega)).symm, rfl⟩
          | exact a_retD (ts := [2]) H rfl rfl ⟨congrArg Value.bool (decide_eq_false (fun h => by have h1 := (h.2.2.2.2.1.1 hk3).2 i hlt; unfold okR at h1; omega)).symm, rfl⟩
          | exact a_retD (ts := [2]) H rfl rfl ⟨congrArg Value.bool (decide_eq_decide.2 ⟨fun h => ⟨by omega, by omega, by omega, by omega, ⟨fun _ => ⟨List.length_pos_iff.1 h, hdone⟩, fun h5 => by omega⟩, by unfold kindOk; omega⟩, fun h => List.length_pos_iff.2 (h.2.2.2.2.1.1 hk3).1⟩), rfl⟩
          | exact a_retD (ts := [2]) H rfl rfl ⟨congrArg Value.bool (decide_eq_decide.2 ⟨fun h => ⟨by omega, by omega, by omega, by omega, ⟨fun h3 => by omega, fun _ => by omega⟩, by unfold kindOk; omega⟩, fun h => by have := h.2.2.2.2.1.2 hk5; omega⟩), rfl⟩
          | exact a_retD (ts := [2]) H rfl rfl ⟨congrArg Value.bool (decide_eq_decide.2 ⟨fun h => ⟨by omega, by omega, by omega, by omega, ⟨fun h3 => by omega, fun h5 => by omega⟩, by unfold kindOk; omega⟩, fun h => by have := h.2.2.2.2.2; unfold kindOk at this; omega⟩), rfl⟩
          | exact a_retD (ts := [2]) H rfl rfl ⟨congrArg Value.bool (decide_eq_false (fun h => by have := h.2.2.2.2.2; unfold kindOk at this; omega)).symm, rfl⟩
        · skip
          refine w_skip ?_
          refine a_normal ?_
          refine w_seq ?_
          refine w_seq ?_
          refine w_region rfl ?_
          refine l_val (v_fieldAddr rfl) rfl ?_
          refine l_val (v_load rfl trivial) rfl ?_
          refine l_nil ?_
          refine a_normal ?_
          refine w_block ?_
          refine w_seq ?_
          refine w_region rfl ?_
          refine l_val (v_eqlZ (i := r.f.kind) (j := 3) rfl rfl) rfl ?_
          refine l_val (v_assign rfl) rfl ?_
          refine l_nil ?_
          refine a_normal ?_
          refine w_condD rfl (fun hk3 => ?_) (fun hk3 => ?_)
          · skip
            refine w_seq ?_
            refine w_seq ?_
            refine w_region rfl ?_
            refine l_val (v_assign (v := .int .i64 (0 : Nat)) rfl) rfl ?_
            refine l_nil ?_
            refine a_normal ?_
            refine w_block ?_
            refine w_loop (fun i : Nat => [(1, ptr b1 0), (3, iN i)]) (fun _ => HP.pts b1 0 (encRF r) * H) (fun i => i ≤ r.f.ranges.length ∧ ∀ j, j < i → okR r.f.ranges j) (fun i => r.f.ranges.length - i) 0 ⟨Nat.zero_le _, fun j hj => by omega⟩ (.cons rfl (.cons rfl .nil)) rfl ?_
            rintro i ⟨hi, hall⟩
            dsimp only at hi hall ⊢
            refine w_seq ?_
            refine w_seq ?_
            refine w_region rfl ?_
            refine l_val (v_move rfl) rfl ?_
            refine l_val (v_fieldAddr rfl) rfl ?_
            refine l_val (v_load rfl trivial) rfl ?_
            refine l_val (v_lenS rfl) rfl ?_
            refine l_val (v_lss rfl rfl) rfl ?_
            refine l_nil ?_
            refine a_normal ?_
            refine w_condD rfl (fun hlt => ?_) (fun hlt => ?_)
            · skip
              refine w_skip ?_
              refine a_normal ?_
              refine w_seq ?_
              refine w_block ?_
              refine w_seq ?_
              refine w_region rfl ?_
              refine l_val (v_fieldAddr rfl) rfl ?_
              refine l_val (v_load rfl trivial) rfl ?_
              refine l_val (v_move rfl) rfl ?_
              refine l_val (v_indexAddrR (b := r.b) (o := r.o) rfl rfl hm.ok hlt) rfl ?_
              refine l_val (v_loadRg (i := i) (xs := r.f.ranges) rfl inferInstance hlt) rfl ?_
              refine l_eff (e_alloc (l := [_, _]) rfl) rfl ?_
              rintro _ _ ⟨b4, rfl, rfl⟩
              refine l_eff0 (e_storeA rfl rfl (by constructor <;> rfl) (by simp [Value.oneCell'])) ?_
              rintro _ _ ⟨rfl, rfl⟩
              refine l_nil ?_
              refine a_normal ?_
              refine w_seq ?_
              refine w_anyH 37 37 mixed rfl (by kernel_rfl) ?_
              refine s_take 0 rfl (by kernel_rfl) rfl (v_fieldAddr rfl) ?_
              refine s_take 1 rfl (by kernel_rfl) rfl (v_load rfl trivial) ?_
              refine s_take 2 rfl (by kernel_rfl) rfl (v_fieldAddr rfl) ?_
              refine s_take 3 rfl (by kernel_rfl) rfl (v_load rfl trivial) ?_
              refine s_take 4 rfl (by kernel_rfl) rfl (v_gtr rfl rfl) ?_
              refine s_take 5 rfl (by kernel_rfl) rfl (v_move rfl) ?_
              refine s_case 44 rfl (fun hg4 => ?_) (fun hg4 => ?_)
              · skip
                refine s_gN 6 rfl (by kernel_rfl) rfl rfl rfl (decide_eq_true hg4) ?_
                refine s_gN 7 rfl (by kernel_rfl) rfl rfl rfl (decide_eq_true hg4) ?_
                refine s_gN 8 rfl (by kernel_rfl) rfl rfl rfl (decide_eq_true hg4) ?_
                refine s_take 9 rfl (by kernel_rfl) rfl (v_pickY (decide_eq_true hg4) rfl rfl) ?_
                refine s_take 10 rfl (by kernel_rfl) rfl (v_move rfl) ?_
                refine s_gN 11 rfl (by kernel_rfl) rfl rfl rfl rfl ?_
                refine s_gN 12 rfl (by kernel_rfl) rfl rfl rfl rfl ?_
                refine s_gN 13 rfl (by kernel_rfl) rfl rfl rfl rfl ?_
                refine s_gU 14 rfl (by kernel_rfl) rfl rfl rfl ?_
                refine s_gU 15 rfl (by kernel_rfl) rfl rfl rfl ?_
                refine s_gU 16 rfl (by kernel_rfl) rfl rfl rfl ?_
                refine s_gU 17 rfl (by kernel_rfl) rfl rfl rfl ?_
                refine s_gU 18 rfl (by kernel_rfl) rfl rfl rfl ?_
                refine s_gU 19 rfl (by kernel_rfl) rfl rfl rfl ?_
                refine s_gU 20 rfl (by kernel_rfl) rfl rfl rfl ?_
                refine s_gU 21 rfl (by kernel_rfl) rfl rfl rfl ?_
                refine s_gU 22 rfl (by kernel_rfl) rfl rfl rfl ?_
                refine s_gU 23 rfl (by kernel_rfl) rfl rfl rfl ?_
                refine s_gU 24 rfl (by kernel_rfl) rfl rfl rfl ?_
                refine s_gU 25 rfl (by kernel_rfl) rfl rfl rfl ?_
                refine s_gU 26 rfl (by kernel_rfl) rfl rfl rfl ?_
                refine s_gU 27 rfl (by kernel_rfl) rfl rfl rfl ?_
                refine s_gU 28 rfl (by kernel_rfl) rfl rfl rfl ?_
                refine s_gU 29 rfl (by kernel_rfl) rfl rfl rfl ?_
                refine s_gU 30 rfl (by kernel_rfl) rfl rfl rfl ?_
                refine s_gU 31 rfl (by kernel_rfl) rfl rfl rfl ?_
                refine s_gU 32 rfl (by kernel_rfl) rfl rfl rfl ?_
                refine s_gU 33 rfl (by kernel_rfl) rfl rfl rfl ?_
                refine s_gU 34 rfl (by kernel_rfl) rfl rfl rfl ?_
                refine s_gN 35 rfl (by kernel_rfl) rfl rfl rfl rfl ?_
                refine s_take 36 rfl (by kernel_rfl) rfl (v_pickY rfl rfl rfl) ?_
                refine s_done (by kernel_rfl) ?_
                refine a_normal ?_
                refine w_condY rfl rfl ?_
                refine w_seq ?_
                refine w_region rfl ?_
                refine l_val (v_assign rfl) rfl ?_
                refine l_nil ?_
                refine a_normal ?_
                refine w_ret ?_
                refine a_bret ?_
                refine a_tret ?_
                refine a_tret ?_
                refine a_bret ?_
                refine a_tret ?_
                refine a_bret ?_
                refine a_tret ?_
                first
                | exact a_retD (ts := [2]) H rfl rfl ⟨congrArg Value.bool (decide_eq_false (fun h => by have := h.1; have := h.2.1; have := h.2.2.1; have := h.2.2.2.1; omega)).symm, rfl⟩
                | exact a_retD (ts := [2]) H rfl rfl ⟨congrArg Value.bool (decide_eq_false (fun h => by have h1 := (h.2.2.2.2.1.1 hk3).2 i hlt; unfold okR at h1; omega)).symm, rfl⟩
                | exact a_retD (ts := [2]) H rfl rfl ⟨congrArg Value.bool (decide_eq_decide.2 ⟨fun h => ⟨by omega, by omega, by omega, by omega, ⟨fun _ => ⟨List.length_pos_iff.1 h, hdone⟩, fun h5 => by omega⟩, by unfold kindOk; omega⟩, fun h => List.length_pos_iff.2 (h.2.2.2.2.1.1 hk3).1⟩), rfl⟩
                | exact a_retD (ts := [2]) H rfl rfl ⟨congrArg Value.bool (decide_eq_decide.2 ⟨fun h => ⟨by omega, by omega, by omega, by omega, ⟨fun h3 => by omega, fun _ => by omega⟩, by unfold kindOk; omega⟩, fun h => by have := h.2.2.2.2.1.2 hk5; omega⟩), rfl⟩
                | exact a_retD (ts := [2]) H rfl rfl ⟨congrArg Value.bool (decide_eq_decide.2 ⟨fun h => ⟨by omega, by omega, by omega, by omega, ⟨fun h3 => by omega, fun h5 => by omega⟩, by unfold kindOk; omega⟩, fun h => by have := h.2.2.2.2.2; unfold kindOk at this; omega⟩), rfl⟩
                | exact a_retD (ts := [2]) H rfl rfl ⟨congrArg Value.bool (decide_eq_false (fun h => by have := h.2.2.2.2.2; unfold kindOk at this; omega)).symm, rfl⟩
              · skip
                refine s_gY 6 rfl (by kernel_rfl) rfl rfl rfl (decide_eq_false hg4) (v_fieldAddr rfl) ?_
                refine s_gY 7 rfl (by kernel_rfl) rfl rfl rfl (decide_eq_false hg4) (v_load rfl trivial) ?_
                refine s_gY 8 rfl (by kernel_rfl) rfl rfl rfl (decide_eq_false hg4) (v_gtr (j := 4611686018427387903) rfl rfl) ?_
                refine s_take 9 rfl (by kernel_rfl) rfl (v_pickN (decide_eq_false hg4) rfl rfl) ?_
                refine s_take 10 rfl (by kernel_rfl) rfl (v_move rfl) ?_
                refine s_case 49 rfl (fun hg5 => ?_) (fun hg5 => ?_)
                · skip
                  refine s_gN 11 rfl (by kernel_rfl) rfl rfl rfl (decide_eq_true hg5) ?_
                  refine s_gN 12 rfl (by kernel_rfl) rfl rfl rfl (decide_eq_true hg5) ?_
                  refine s_gN 13 rfl (by kernel_rfl) rfl rfl rfl (decide_eq_true hg5) ?_
                  refine s_gU 14 rfl (by kernel_rfl) rfl rfl rfl ?_
                  refine s_gU 15 rfl (by kernel_rfl) rfl rfl rfl ?_
                  refine s_gU 16 rfl (by kernel_rfl) rfl rfl rfl ?_
                  refine s_gU 17 rfl (by kernel_rfl) rfl rfl rfl ?_
                  refine s_gU 18 rfl (by kernel_rfl) rfl rfl rfl ?_
                  refine s_gU 19 rfl (by kernel_rfl) rfl rfl rfl ?_
                  refine s_gU 20 rfl (by kernel_rfl) rfl rfl rfl ?_
                  refine s_gU 21 rfl (by kernel_rfl) rfl rfl rfl ?_
                  refine s_gU 22 rfl (by kernel_rfl) rfl rfl rfl ?_
                  refine s_gU 23 rfl (by kernel_rfl) rfl rfl rfl ?_
                  refine s_gU 24 rfl (by kernel_rfl) rfl rfl rfl ?_
                  refine s_gU 25 rfl (by kernel_rfl) rfl rfl rfl ?_
                  refine s_gU 26 rfl (by kernel_rfl) rfl rfl rfl ?_
                  refine s_gU 27 rfl (by kernel_rfl) rfl rfl rfl ?_
                  refine s_gU 28 rfl (by kernel_rfl) rfl rfl rfl ?_
                  refine s_gU 29 rfl (by kernel_rfl) rfl rfl rfl ?_
                  refine s_gU 30 rfl (by kernel_rfl) rfl rfl rfl ?_
                  refine s_gU 31 rfl (by kernel_rfl) rfl rfl rfl ?_
                  refine s_gU 32 rfl (by kernel_rfl) rfl rfl rfl ?_
                  refine s_gU 33 rfl (by kernel_rfl) rfl rfl rfl ?_
                  refine s_gU 34 rfl (by kernel_rfl) rfl rfl rfl ?_
                  refine s_gN 35 rfl (by kernel_rfl) rfl rfl rfl (decide_eq_true hg5) ?_
                  refine s_take 36 rfl (by kernel_rfl) rfl (v_pickY (decide_eq_true hg5) rfl rfl) ?_
                  refine s_done (by kernel_rfl) ?_
                  refine a_normal ?_
                  refine w_condY rfl rfl ?_
                  refine w_seq ?_
                  refine w_region rfl ?_
                  refine l_val (v_assign rfl) rfl ?_
                  refine l_nil ?_
                  refine a_normal ?_
                  refine w_ret ?_
                  refine a_bret ?_
                  refine a_tret ?_
                  refine a_tret ?_
                  refine a_bret ?_
                  refine a_tret ?_
                  refine a_bret ?_
                  refine a_tret ?_
                  first
                  | exact a_retD (ts := [2]) H rfl rfl ⟨congrArg Value.bool (decide_eq_false (fun h => by have := h.1; have := h.2.1; have := h.2.2.1; have := h.2.2.2.1; omega)).symm, rfl⟩
                  | exact a_retD (ts := [2]) H rfl rfl ⟨congrArg Value.bool (decide_eq_false (fun h => by have h1 := (h.2.2.2.2.1.1 hk3).2 i hlt; unfold okR at h1; omega)).symm, rfl⟩
                  | exact a_retD (ts := [2]) H rfl rfl ⟨congrArg Value.bool (decide_eq_decide.2 ⟨fun h => ⟨by omega, by omega, by omega, by omega, ⟨fun _ => ⟨List.length_pos_iff.1 h, hdone⟩, fun h5 => by omega⟩, by unfold kindOk; omega⟩, fun h => List.length_pos_iff.2 (h.2.2.2.2.1.1 hk3).1⟩), rfl⟩
                  | exact a_retD (ts := [2]) H rfl rfl ⟨congrArg Value.bool (decide_eq_decide.2 ⟨fun h => ⟨by omega, by omega, by omega, by omega, ⟨fun h3 => by omega, fun _ => by omega⟩, by unfold kindOk; omega⟩, fun h => by have := h.2.2.2.2.1.2 hk5; omega⟩), rfl⟩
                  | exact a_retD (ts := [2]) H rfl rfl ⟨congrArg Value.bool (decide_eq_decide.2 ⟨fun h => ⟨by omega, by omega, by omega, by omega, ⟨fun h3 => by omega, fun h5 => by omega⟩, by unfold kindOk; omega⟩, fun h => by have := h.2.2.2.2.2; unfold kindOk at this; omega⟩), rfl⟩
                  | exact a_retD (ts := [2]) H rfl rfl ⟨congrArg Value.bool (decide_eq_false (fun h => by have := h.2.2.2.2.2; unfold kindOk at this; omega)).symm, rfl⟩
                · skip
                  refine s_gY 11 rfl (by kernel_rfl) rfl rfl rfl (decide_eq_false hg5) (v_move rfl) ?_
                  refine s_gY 12 rfl (by kernel_rfl) rfl rfl rfl (decide_eq_false hg5) (v_gtr (j := 0) rfl rfl) ?_
                  refine s_gY 13 rfl (by kernel_rfl) rfl rfl rfl (decide_eq_false hg5) (v_move rfl) ?_
                  refine s_case 52 rfl (fun hg6 => ?_) (fun hg6 => ?_)
                  · skip
                    refine s_gY 14 rfl (by kernel_rfl) rfl rfl rfl (decide_eq_true hg6) (v_fieldAddr rfl) ?_
                    refine s_gY 15 rfl (by kernel_rfl) rfl rfl rfl (decide_eq_true hg6) (v_load rfl trivial) ?_
                    refine s_gY 16 rfl (by kernel_rfl) rfl rfl rfl (decide_eq_true hg6) (v_move rfl) ?_
                    refine s_gY 17 rfl (by kernel_rfl) rfl rfl rfl (decide_eq_true hg6) (v_subI (j := 1) rfl rfl (by have := hm.len; omega)) ?_
                    refine s_gY 18 rfl (by kernel_rfl) rfl rfl rfl (decide_eq_true hg6) (v_indexAddrR (b := r.b) (o := r.o) rfl rfl hm.ok (by omega)) ?_
                    refine s_gY 19 rfl (by kernel_rfl) rfl rfl rfl (decide_eq_true hg6) (v_fieldAddr rfl) ?_
                    refine s_gY 20 rfl (by kernel_rfl) rfl rfl rfl (decide_eq_true hg6) (v_loadLo (i := i - 1) (xs := r.f.ranges) rfl inferInstance (by omega)) ?_
                    refine s_gY 21 rfl (by kernel_rfl) rfl rfl rfl (decide_eq_true hg6) (v_lss (j := 2) rfl rfl) ?_
                    refine s_gY 22 rfl (by kernel_rfl) rfl rfl rfl (decide_eq_true hg6) (v_move rfl) ?_
                    refine s_case 61 rfl (fun hg7 => ?_) (fun hg7 => ?_)
                    · skip
                      refine s_gN 23 rfl (by kernel_rfl) rfl rfl rfl (decide_eq_true hg7) ?_
                      refine s_gN 24 rfl (by kernel_rfl) rfl rfl rfl (decide_eq_true hg7) ?_
                      refine s_gN 25 rfl (by kernel_rfl) rfl rfl rfl (decide_eq_true hg7) ?_
                      refine s_gN 26 rfl (by kernel_rfl) rfl rfl rfl (decide_eq_true hg7) ?_
                      refine s_gN 27 rfl (by kernel_rfl) rfl rfl rfl (decide_eq_true hg7) ?_
                      refine s_gN 28 rfl (by kernel_rfl) rfl rfl rfl (decide_eq_true hg7) ?_
                      refine s_gN 29 rfl (by kernel_rfl) rfl rfl rfl (decide_eq_true hg7) ?_
                      refine s_gN 30 rfl (by kernel_rfl) rfl rfl rfl (decide_eq_true hg7) ?_
                      refine s_gN 31 rfl (by kernel_rfl) rfl rfl rfl (decide_eq_true hg7) ?_
                      refine s_gN 32 rfl (by kernel_rfl) rfl rfl rfl (decide_eq_true hg7) ?_
                      refine s_gN 33 rfl (by kernel_rfl) rfl rfl rfl (decide_eq_true hg7) ?_
                      refine s_gY 34 rfl (by kernel_rfl) rfl rfl rfl (decide_eq_true hg6) (v_pickY (decide_eq_true hg7) rfl rfl) ?_
                      refine s_gY 35 rfl (by kernel_rfl) rfl rfl rfl (decide_eq_false hg5) (v_pickY (decide_eq_true hg6) rfl rfl) ?_
                      refine s_take 36 rfl (by kernel_rfl) rfl (v_pickN (decide_eq_false hg5) rfl rfl) ?_
                      refine s_done (by kernel_rfl) ?_
                      refine a_normal ?_
                      refine w_condY rfl rfl ?_
                      refine w_seq ?_
                      refine w_region rfl ?_
                      refine l_val (v_assign rfl) rfl ?_
                      refine l_nil ?_
                      refine a_normal ?_
                      refine w_ret ?_
                      refine a_bret ?_
                      refine a_tret ?_
                      refine a_tret ?_
                      refine a_bret ?_
                      refine a_tret ?_
                      refine a_bret ?_
                      refine a_tret ?_
                      first
                      | exact a_retD (ts := [2]) H rfl rfl ⟨congrArg Value.bool (decide_eq_false (fun h => by have := h.1; have := h.2.1; have := h.2.2.1; have := h.2.2.2.1; omega)).symm, rfl⟩
                      | exact a_retD (ts := [2]) H rfl rfl ⟨congrArg Value.bool (decide_eq_false (fun h => by have h1 := (h.2.2.2.2.1.1 hk3).2 i hlt; unfold okR at h1; omega)).symm, rfl⟩
                      | exact a_retD (ts := [2]) H rfl rfl ⟨congrArg Value.bool (decide_eq_decide.2 ⟨fun h => ⟨by omega, by omega, by omega, by omega, ⟨fun _ => ⟨List.length_pos_iff.1 h, hdone⟩, fun h5 => by omega⟩, by unfold kindOk; omega⟩, fun h => List.length_pos_iff.2 (h.2.2.2.2.1.1 hk3).1⟩), rfl⟩
                      | exact a_retD (ts := [2]) H rfl rfl ⟨congrArg Value.bool (decide_eq_decide.2 ⟨fun h => ⟨by omega, by omega, by omega, by omega, ⟨fun h3 => by omega, fun _ => by omega⟩, by unfold kindOk; omega⟩, fun h => by have := h.2.2.2.2.1.2 hk5; omega⟩), rfl⟩
                      | exact a_retD (ts := [2]) H rfl rfl ⟨congrArg Value.bool (decide_eq_decide.2 ⟨fun h => ⟨by omega, by omega, by omega, by omega, ⟨fun h3 => by omega, fun h5 => by omega⟩, by unfold kindOk; omega⟩, fun h => by have := h.2.2.2.2.2; unfold kindOk at this; omega⟩), rfl⟩
                      | exact a_retD (ts := [2]) H rfl rfl ⟨congrArg Value.bool (decide_eq_false (fun h => by have := h.2.2.2.2.2; unfold kindOk at this; omega)).symm, rfl⟩
                    · skip
                      refine s_gY 23 rfl (by kernel_rfl) rfl rfl rfl (decide_eq_false hg7) (v_fieldAddr rfl) ?_
                      refine s_gY 24 rfl (by kernel_rfl) rfl rfl rfl (decide_eq_false hg7) (v_load rfl trivial) ?_
                      refine s_gY 25 rfl (by kernel_rfl) rfl rfl rfl (decide_eq_false hg7) (v_fieldAddr rfl) ?_
                      refine s_gY 26 rfl (by kernel_rfl) rfl rfl rfl (decide_eq_false hg7) (v_load rfl trivial) ?_
                      refine s_gY 27 rfl (by kernel_rfl) rfl rfl rfl (decide_eq_false hg7) (v_move rfl) ?_
                      refine s_gY 28 rfl (by kernel_rfl) rfl rfl rfl (decide_eq_false hg7) (v_subI (j := 1) rfl rfl (by have := hm.len; omega)) ?_
                      refine s_gY 29 rfl (by kernel_rfl) rfl rfl rfl (decide_eq_false hg7) (v_indexAddrR (b := r.b) (o := r.o) rfl rfl hm.ok (by omega)) ?_
                      refine s_gY 30 rfl (by kernel_rfl) rfl rfl rfl (decide_eq_false hg7) (v_fieldAddr rfl) ?_
                      refine s_gY 31 rfl (by kernel_rfl) rfl rfl rfl (decide_eq_false hg7) (v_loadLo (i := i - 1) (xs := r.f.ranges) rfl inferInstance (by omega)) ?_
                      refine s_gY 32 rfl (by kernel_rfl) rfl rfl rfl (decide_eq_false hg7) (v_subU (j := 2) rfl rfl (by have hp := hall (i - 1) (by omega); unfold okR at hp; omega)) ?_
                      refine s_gY 33 rfl (by kernel_rfl) rfl rfl rfl (decide_eq_false hg7) (v_gtr rfl rfl) ?_
                      refine s_gY 34 rfl (by kernel_rfl) rfl rfl rfl (decide_eq_true hg6) (v_pickN (decide_eq_false hg7) rfl rfl) ?_
                      refine s_gY 35 rfl (by kernel_rfl) rfl rfl rfl (decide_eq_false hg5) (v_pickY (decide_eq_true hg6) rfl rfl) ?_
                      refine s_take 36 rfl (by kernel_rfl) rfl (v_pickN (decide_eq_false hg5) rfl rfl) ?_
                      refine s_done (by kernel_rfl) ?_
                      refine a_normal ?_
                      refine w_condD rfl (fun hbad => ?_) (fun hbad => ?_)
                      · skip
                        refine w_seq ?_
                        refine w_region rfl ?_
                        refine l_val (v_assign rfl) rfl ?_
                        refine l_nil ?_
                        refine a_normal ?_
                        refine w_ret ?_
                        refine a_bret ?_
                        refine a_tret ?_
                        refine a_tret ?_
                        refine a_bret ?_
                        refine a_tret ?_
                        refine a_bret ?_
                        refine a_tret ?_
                        first
                        | exact a_retD (ts := [2]) H rfl rfl ⟨congrArg Value.bool (decide_eq_false (fun h => by have := h.1; have := h.2.1; have := h.2.2.1; have := h.2.2.2.1; omega)).symm, rfl⟩
                        | exact a_retD (ts := [2]) H rfl rfl ⟨congrArg Value.bool (decide_eq_false (fun h => by have h1 := (h.2.2.2.2.1.1 hk3).2 i hlt; unfold okR at h1; omega)).symm, rfl⟩
                        | exact a_retD (ts := [2]) H rfl rfl ⟨congrArg Value.bool (decide_eq_decide.2 ⟨fun h => ⟨by omega, by omega, by omega, by omega, ⟨fun _ => ⟨List.length_pos_iff.1 h, hdone⟩, fun h5 => by omega⟩, by unfold kindOk; omega⟩, fun h => List.length_pos_iff.2 (h.2.2.2.2.1.1 hk3).1⟩), rfl⟩
                        | exact a_retD (ts := [2]) H rfl rfl ⟨congrArg Value.bool (decide_eq_decide.2 ⟨fun h => ⟨by omega, by omega, by omega, by omega, ⟨fun h3 => by omega, fun _ => by omega⟩, by unfold kindOk; omega⟩, fun h => by have := h.2.2.2.2.1.2 hk5; omega⟩), rfl⟩
                        | exact a_retD (ts := [2]) H rfl rfl ⟨congrArg Value.bool (decide_eq_decide.2 ⟨fun h => ⟨by omega, by omega, by omega, by omega, ⟨fun h3 => by omega, fun h5 => by omega⟩, by unfold kindOk; omega⟩, fun h => by have := h.2.2.2.2.2; unfold kindOk at this; omega⟩), rfl⟩
                        | exact a_retD (ts := [2]) H rfl rfl ⟨congrArg Value.bool (decide_eq_false (fun h => by have := h.2.2.2.2.2; unfold kindOk at this; omega)).symm, rfl⟩
                      · skip
                        refine w_skip ?_
                        refine a_bnormal ?_
                        refine a_normal ?_
                        refine w_region rfl ?_
                        refine l_val (v_move rfl) rfl ?_
                        refine l_val (v_addI (j := 1) rfl rfl (by have := hm.len; omega)) rfl ?_
                        refine l_val (v_assign rfl) rfl ?_
                        refine l_nil ?_
                        refine a_ent (HP.pts b1 0 (encRF r) * H) (a_loop (i + 1) ⟨hlt, fun j hj => ?_⟩ (by omega) (.cons rfl (.cons rfl .nil)) rfl)
                        rcases Nat.lt_succ_iff_lt_or_eq.1 hj with h | rfl
                        · exact hall j h
                        · unfold okR; omega
                  · skip
                    refine s_gN 14 rfl (by kernel_rfl) rfl rfl rfl (decide_eq_false hg6) ?_
                    refine s_gN 15 rfl (by kernel_rfl) rfl rfl rfl (decide_eq_false hg6) ?_
                    refine s_gN 16 rfl (by kernel_rfl) rfl rfl rfl (decide_eq_false hg6) ?_
                    refine s_gN 17 rfl (by kernel_rfl) rfl rfl rfl (decide_eq_false hg6) ?_
                    refine s_gN 18 rfl (by kernel_rfl) rfl rfl rfl (decide_eq_false hg6) ?_
                    refine s_gN 19 rfl (by kernel_rfl) rfl rfl rfl (decide_eq_false hg6) ?_
                    refine s_gN 20 rfl (by kernel_rfl) rfl rfl rfl (decide_eq_false hg6) ?_
                    refine s_gN 21 rfl (by kernel_rfl) rfl rfl rfl (decide_eq_false hg6) ?_
                    refine s_gN 22 rfl (by kernel_rfl) rfl rfl rfl (decide_eq_false hg6) ?_
                    refine s_gU 23 rfl (by kernel_rfl) rfl rfl rfl ?_
                    refine s_gU 24 rfl (by kernel_rfl) rfl rfl rfl ?_
                    refine s_gU 25 rfl (by kernel_rfl) rfl rfl rfl ?_
                    refine s_gU 26 rfl (by kernel_rfl) rfl rfl rfl ?_
                    refine s_gU 27 rfl (by kernel_rfl) rfl rfl rfl ?_
                    refine s_gU 28 rfl (by kernel_rfl) rfl rfl rfl ?_
                    refine s_gU 29 rfl (by kernel_rfl) rfl rfl rfl ?_
                    refine s_gU 30 rfl (by kernel_rfl) rfl rfl rfl ?_
                    refine s_gU 31 rfl (by kernel_rfl) rfl rfl rfl ?_
                    refine s_gU 32 rfl (by kernel_rfl) rfl rfl rfl ?_
                    refine s_gU 33 rfl (by kernel_rfl) rfl rfl rfl ?_
                    refine s_gN 34 rfl (by kernel_rfl) rfl rfl rfl (decide_eq_false hg6) ?_
                    refine s_gY 35 rfl (by kernel_rfl) rfl rfl rfl (decide_eq_false hg5) (v_pickN (decide_eq_false hg6) rfl rfl) ?_
                    refine s_take 36 rfl (by kernel_rfl) rfl (v_pickN (decide_eq_false hg5) rfl rfl) ?_
                    refine s_done (by kernel_rfl) ?_
                    refine a_normal ?_
                    refine w_condN rfl rfl ?_
                    refine w_skip ?_
                    refine a_bnormal ?_
                    refine a_normal ?_
                    refine w_region rfl ?_
                    refine l_val (v_move rfl) rfl ?_
                    refine l_val (v_addI (j := 1) rfl rfl (by have := hm.len; omega)) rfl ?_
                    refine l_val (v_assign rfl) rfl ?_
                    refine l_nil ?_
                    refine a_ent (HP.pts b1 0 (encRF r) * H) (a_loop (i + 1) ⟨hlt, fun j hj => ?_⟩ (by omega) (.cons rfl (.cons rfl .nil)) rfl)
                    rcases Nat.lt_succ_iff_lt_or_eq.1 hj with h | rfl
                    · exact hall j h
                    · unfold okR; omega
            · skip
              have hie : i = r.f.ranges.length := by omega
              have hdone : ∀ j, j < r.f.ranges.length → okR r.f.ranges j := hie ▸ hall
              refine w_exit ?_
              refine a_texit ?_
              refine a_texit ?_
              refine a_bexit ?_
              refine a_normal ?_
              refine w_seq ?_
              refine w_region rfl ?_
              refine l_val (v_fieldAddr rfl) rfl ?_
              refine l_val (v_load rfl trivial) rfl ?_
              refine l_val (v_lenS rfl) rfl ?_
              refine l_val (v_gtr (j := 0) rfl rfl) rfl ?_
              refine l_val (v_assign rfl) rfl ?_
              refine l_nil ?_
              refine a_normal ?_
              refine w_ret ?_
              refine a_bret ?_
              refine a_tret ?_
              first
              | exact a_retD (ts := [2]) H rfl rfl ⟨congrArg Value.bool (decide_eq_false (fun h => by have := h.1; have := h.2.1; have := h.2.2.1; have := h.2.2.2.1; omega)).symm, rfl⟩
              | exact a_retD (ts := [2]) H rfl rfl ⟨congrArg Value.bool (decide_eq_false (fun h => by have h1 := (h.2.2.2.2.1.1 hk3).2 i hlt; unfold okR at h1; omega)).symm, rfl⟩
              | exact a_retD (ts := [2]) H rfl rfl ⟨congrArg Value.bool (decide_eq_decide.2 ⟨fun h => ⟨by omega, by omega, by omega, by omega, ⟨fun _ => ⟨List.length_pos_iff.1 h, hdone⟩, fun h5 => by omega⟩, by unfold kindOk; omega⟩, fun h => List.length_pos_iff.2 (h.2.2.2.2.1.1 hk3).1⟩), rfl⟩
              | exact a_retD (ts := [2]) H rfl rfl ⟨congrArg Value.bool (decide_eq_decide.2 ⟨fun h => ⟨by omega, by omega, by omega, by omega, ⟨fun h3 => by omega, fun _ => by omega⟩, by unfold kindOk; omega⟩, fun h => by have := h.2.2.2.2.1.2 hk5; omega⟩), rfl⟩
              | exact a_retD (ts := [2]) H rfl rfl ⟨congrArg Value.bool (decide_eq_decide.2 ⟨fun h => ⟨by omega, by omega, by omega, by omega, ⟨fun h3 => by omega, fun h5 => by omega⟩, by unfold kindOk; omega⟩, fun h => by have := h.2.2.2.2.2; unfold kindOk at this; omega⟩), rfl⟩
              | exact a_retD (ts := [2]) H rfl rfl ⟨congrArg Value.bool (decide_eq_false (fun h => by have := h.2.2.2.2.2; unfold kindOk at this; omega)).symm, rfl⟩
          · skip
            refine w_seq ?_
            refine w_region rfl ?_
            refine l_val (v_eqlZ (i := r.f.kind) (j := 5) rfl rfl) rfl ?_
            refine l_val (v_assign rfl) rfl ?_
            refine l_nil ?_
            refine a_normal ?_
            refine w_condD rfl (fun hk5 => ?_) (fun hk5 => ?_)
            · skip
              refine w_seq ?_
              refine w_region rfl ?_
              refine l_val (v_fieldAddr rfl) rfl ?_
              refine l_val (v_load rfl trivial) rfl ?_
              refine l_val (v_lenStr rfl) rfl ?_
              refine l_val (v_conv rfl (fit_u64 (by have := hm.size; omega))) rfl ?_
              refine l_val (v_fieldAddr rfl) rfl ?_
              refine l_val (v_load rfl trivial) rfl ?_
              refine l_val (v_subU (i := 4611686018427387903) rfl rfl (by omega)) rfl ?_
              refine l_val (v_leq rfl rfl) rfl ?_
              refine l_val (v_assign rfl) rfl ?_
              refine l_nil ?_
              refine a_normal ?_
              refine w_ret ?_
              refine a_bret ?_
              refine a_tret ?_
              first
              | exact a_retD (ts := [2]) H rfl rfl ⟨congrArg Value.bool (decide_eq_false (fun h => by have := h.1; have := h.2.1; have := h.2.2.1; have := h.2.2.2.1; omega)).symm, rfl⟩
              | exact a_retD (ts := [2]) H rfl rfl ⟨congrArg Value.bool (decide_eq_false (fun h => by have h1 := (h.2.2.2.2.1.1 hk3).2 i hlt; unfold okR at h1; omega)).symm, rfl⟩
              | exact a_retD (ts := [2]) H rfl rfl ⟨congrArg Value.bool (decide_eq_decide.2 ⟨fun h => ⟨by omega, by omega, by omega, by omega, ⟨fun _ => ⟨List.length_pos_iff.1 h, hdone⟩, fun h5 => by omega⟩, by unfold kindOk; omega⟩, fun h => List.length_pos_iff.2 (h.2.2.2.2.1.1 hk3).1⟩), rfl⟩
              | exact a_retD (ts := [2]) H rfl rfl ⟨congrArg Value.bool (decide_eq_decide.2 ⟨fun h => ⟨by omega, by omega, by omega, by omega, ⟨fun h3 => by omega, fun _ => by omega⟩, by unfold kindOk; omega⟩, fun h => by have := h.2.2.2.2.1.2 hk5; omega⟩), rfl⟩
              | exact a_retD (ts := [2]) H rfl rfl ⟨congrArg Value.bool (decide_eq_decide.2 ⟨fun h => ⟨by omega, by omega, by omega, by omega, ⟨fun h3 => by omega, fun h5 => by omega⟩, by unfold kindOk; omega⟩, fun h => by have := h.2.2.2.2.2; unfold kindOk at this; omega⟩), rfl⟩
              | exact a_retD (ts := [2]) H rfl rfl ⟨congrArg Value.bool (decide_eq_false (fun h => by have := h.2.2.2.2.2; unfold kindOk at this; omega)).symm, rfl⟩
            · skip
              refine w_skip ?_
              refine a_bnormal ?_
              refine a_normal ?_
              refine w_seq ?_
              refine w_region rfl ?_
              refine l_val (v_fieldAddr rfl) rfl ?_
              refine l_val (v_load rfl trivial) rfl ?_
              refine l_val (v_geqZ (i := r.f.kind) (j := 1) rfl rfl) rfl ?_
              refine l_val (v_move rfl) rfl ?_
              refine l_case 93 rfl (fun hg8 => ?_) (fun hg8 => ?_)
              · skip
                refine l_gY rfl rfl rfl (decide_eq_true hg8) ?_
                refine l_val (v_fieldAddr rfl) rfl ?_
                refine l_gY rfl rfl rfl (decide_eq_true hg8) ?_
                refine l_val (v_load rfl trivial) rfl ?_
                refine l_gY rfl rfl rfl (decide_eq_true hg8) ?_
                refine l_val (v_leqZ (i := r.f.kind) (j := 6) rfl rfl) rfl ?_
                refine l_val (v_pickY (decide_eq_true hg8) rfl rfl) rfl ?_
                refine l_val (v_assign rfl) rfl ?_
                refine l_nil ?_
                refine a_normal ?_
                refine w_ret ?_
                first
                | exact a_retD (ts := [2]) H rfl rfl ⟨congrArg Value.bool (decide_eq_false (fun h => by have := h.1; have := h.2.1; have := h.2.2.1; have := h.2.2.2.1; omega)).symm, rfl⟩
                | exact a_retD (ts := [2]) H rfl rfl ⟨congrArg Value.bool (decide_eq_false (fun h => by have h1 := (h.2.2.2.2.1.1 hk3).2 i hlt; unfold okR at h1; omega)).symm, rfl⟩
                | exact a_retD (ts := [2]) H rfl rfl ⟨congrArg Value.bool (decide_eq_decide.2 ⟨fun h => ⟨by omega, by omega, by omega, by omega, ⟨fun _ => ⟨List.length_pos_iff.1 h, hdone⟩, fun h5 => by omega⟩, by unfold kindOk; omega⟩, fun h => List.length_pos_iff.2 (h.2.2.2.2.1.1 hk3).1⟩), rfl⟩
                | exact a_retD (ts := [2]) H rfl rfl ⟨congrArg Value.bool (decide_eq_decide.2 ⟨fun h => ⟨by omega, by omega, by omega, by omega, ⟨fun h3 => by omega, fun _ => by omega⟩, by unfold kindOk; omega⟩, fun h => by have := h.2.2.2.2.1.2 hk5; omega⟩), rfl⟩
                | exact a_retD (ts := [2]) H rfl rfl ⟨congrArg Value.bool (decide_eq_decide.2 ⟨fun h => ⟨by omega, by omega, by omega, by omega, ⟨fun h3 => by omega, fun h5 => by omega⟩, by unfold kindOk; omega⟩, fun h => by have := h.2.2.2.2.2; unfold kindOk at this; omega⟩), rfl⟩
                | exact a_retD (ts := [2]) H rfl rfl ⟨congrArg Value.bool (decide_eq_false (fun h => by have := h.2.2.2.2.2; unfold kindOk at this; omega)).symm, rfl⟩
              · skip
                refine l_gN rfl rfl rfl (decide_eq_false hg8) ?_
                refine l_gN rfl rfl rfl (decide_eq_false hg8) ?_
                refine l_gN rfl rfl rfl (decide_eq_false hg8) ?_
                refine l_val (v_pickN (decide_eq_false hg8) rfl rfl) rfl ?_
                refine l_val (v_assign rfl) rfl ?_
                refine l_nil ?_
                refine a_normal ?_
                refine w_ret ?_
                first
                | exact a_retD (ts := [2]) H rfl rfl ⟨congrArg Value.bool (decide_eq_false (fun h => by have := h.1; have := h.2.1; have := h.2.2.1; have := h.2.2.2.1; omega)).symm, rfl⟩
                | exact a_retD (ts := [2]) H rfl rfl ⟨congrArg Value.bool (decide_eq_false (fun h => by have h1 := (h.2.2.2.2.1.1 hk3).2 i hlt; unfold okR at h1; omega)).symm, rfl⟩
                | exact a_retD (ts := [2]) H rfl rfl ⟨congrArg Value.bool (decide_eq_decide.2 ⟨fun h => ⟨by omega, by omega, by omega, by omega, ⟨fun _ => ⟨List.length_pos_iff.1 h, hdone⟩, fun h5 => by omega⟩, by unfold kindOk; omega⟩, fun h => List.length_pos_iff.2 (h.2.2.2.2.1.1 hk3).1⟩), rfl⟩
                | exact a_retD (ts := [2]) H rfl rfl ⟨congrArg Value.bool (decide_eq_decide.2 ⟨fun h => ⟨by omega, by omega, by omega, by omega, ⟨fun h3 => by omega, fun _ => by omega⟩, by unfold kindOk; omega⟩, fun h => by have := h.2.2.2.2.1.2 hk5; omega⟩), rfl⟩
                | exact a_retD (ts := [2]) H rfl rfl ⟨congrArg Value.bool (decide_eq_decide.2 ⟨fun h => ⟨by omega, by omega, by omega, by omega, ⟨fun h3 => by omega, fun h5 => by omega⟩, by unfold kindOk; omega⟩, fun h => by have := h.2.2.2.2.2; unfold kindOk at this; omega⟩), rfl⟩
                | exact a_retD (ts := [2]) H rfl rfl ⟨congrArg Value.bool (decide_eq_false (fun h => by have := h.2.2.2.2.2; unfold kindOk at this; omega)).symm, rfl⟩

theorem rwritten_spec (r : RF) (p : Option Addr) (b o c : Nat) (xs : List UInt8) (s : List Value) (H : HP) (hm : Mod r) (hokf : okF r.f) (hr : RdA B H r.b r.o r.f.ranges) (hs : Sl p b o xs.length c) (hc : xs.length * 1 + s.length = c * 1) (hx : xs.length < 100000000000) :
    Fn Tryd.prog B 32 [.slice p xs.length c, .agg (encRF r).toArray] (arr b o xs s * H) (fun v H' => IsSl H (xs ++ encF r.f) v H') := by
  refine fn_intro Tryd.func32 rfl rfl rfl ?_
  obtain ⟨hof, hcd, hs0, hs4, hok, hkk⟩ := hokf
  have hst : r.f.stream = ((r.f.stream.toNat : Nat) : Int) := by omega
  have q1 := vint_length r.f.stream.toNat
  have q2 := vint_length r.f.code
  have q3 := vint_length r.f.offset
  have q4 := vint_length r.f.data.size
  refine w_seq ?_
  refine w_region rfl ?_
  refine l_eff (e_box (l := encRF r) rfl rfl) rfl ?_
  rintro _ _ ⟨b3, rfl, rfl⟩
  refine l_val (v_assign rfl) rfl ?_
  refine l_nil ?_
  refine a_normal ?_
  refine w_seq ?_
  refine w_seq ?_
  refine w_region rfl ?_
  refine l_val (v_fieldAddr rfl) rfl ?_
  refine l_val (v_load rfl trivial) rfl ?_
  refine l_nil ?_
  refine a_normal ?_
  refine w_block ?_
  refine w_seq ?_
  refine w_region rfl ?_
  refine l_val (v_eqlZ (i := r.f.kind) (j := 1) rfl rfl) rfl ?_
  refine l_val (v_assign rfl) rfl ?_
  refine l_nil ?_
  refine a_normal ?_
  refine w_condD rfl (fun hk1 => ?_) (fun hk1 => ?_)
  · skip
    refine w_seq ?_
    refine w_region rfl ?_
    refine l_val (v_move rfl) rfl ?_
    refine l_eff (e_mk1 rfl rfl (by simp [Value.oneCell']) rfl rfl rfl) rfl ?_
    rintro _ _ ⟨b12, rfl, rfl⟩
    refine l_heap (H' := arr b o xs s * (HP.pts b12 0 (flat [(0 : UInt8)]) * (HP.pts b3 0 (encRF r) * H))) (by show HP.pts b12 0 (flat [(0 : UInt8)]) * _ = _; ac_rfl) ?_
    refine l_eff (e_append (ys := [(0 : UInt8)]) (bb := b12) (oo := 0) (cc := 1) rfl hs hc rfl ⟨.inr rfl, Nat.le_refl _⟩ inferInstance rfl (by simp only [List.length_singleton]; omega) (by omega)) rfl ?_
    rintro _ _ ⟨p13, b13, o13, c13, s13, rfl, hs13, hc13, rfl⟩
    refine l_val (v_assign rfl) rfl ?_
    refine l_nil ?_
    refine a_normal ?_
    refine w_ret ?_
    refine a_bret ?_
    refine a_tret ?_
    exact a_retD (ts := [4]) (arr b13 o13 (xs ++ [0]) s13 * H) rfl rfl (by rw [show encF r.f = [0] by simp [encF, hk1]]; exact ⟨p13, b13, o13, c13, s13, rfl, hs13, hc13, rfl⟩)
  · skip
    refine w_seq ?_
    refine w_region rfl ?_
    refine l_val (v_eqlZ (i := r.f.kind) (j := 2) rfl rfl) rfl ?_
    refine l_val (v_assign rfl) rfl ?_
    refine l_nil ?_
    refine a_normal ?_
    refine w_condD rfl (fun hk2 => ?_) (fun hk2 => ?_)
    · skip
      refine w_seq ?_
      refine w_region rfl ?_
      refine l_val (v_move rfl) rfl ?_
      refine l_eff (e_mk1 rfl rfl (by simp [Value.oneCell']) rfl rfl rfl) rfl ?_
      rintro _ _ ⟨b17, rfl, rfl⟩
      refine l_heap (H' := arr b o xs s * (HP.pts b17 0 (flat [(1 : UInt8)]) * (HP.pts b3 0 (encRF r) * H))) (by show HP.pts b17 0 (flat [(1 : UInt8)]) * _ = _; ac_rfl) ?_
      refine l_eff (e_append (ys := [(1 : UInt8)]) (bb := b17) (oo := 0) (cc := 1) rfl hs hc rfl ⟨.inr rfl, Nat.le_refl _⟩ inferInstance rfl (by simp only [List.length_singleton]; omega) (by omega)) rfl ?_
      rintro _ _ ⟨p18, b18, o18, c18, s18, rfl, hs18, hc18, rfl⟩
      refine l_val (v_assign rfl) rfl ?_
      refine l_nil ?_
      refine a_normal ?_
      refine w_ret ?_
      refine a_bret ?_
      refine a_tret ?_
      exact a_retD (ts := [4]) (arr b18 o18 (xs ++ [1]) s18 * H) rfl rfl (by rw [show encF r.f = [1] by simp [encF, hk2]]; exact ⟨p18, b18, o18, c18, s18, rfl, hs18, hc18, rfl⟩)
    · skip
      refine w_seq ?_
      refine w_region rfl ?_
      refine l_val (v_eqlZ (i := r.f.kind) (j := 3) rfl rfl) rfl ?_
      refine l_val (v_assign rfl) rfl ?_
      refine l_nil ?_
      refine a_normal ?_
      refine w_condD rfl (fun hk3 => ?_) (fun hk3 => ?_)
      · skip
        have hra := hok.1 hk3
        have hne : 0 < r.f.ranges.length := List.length_pos_iff.2 hra.1
        have h0 := hra.2 0 hne
        unfold okR at h0
        have q5 := vint_length (rg r.f.ranges 0).hi
        have q6 := vint_length (r.f.ranges.length - 1)
        have q7 := vint_length ((rg r.f.ranges 0).hi - (rg r.f.ranges 0).lo)
        have hml := hm.len
        refine w_seq ?_
        refine w_region rfl ?_
        refine l_val (v_move rfl) rfl ?_
        refine l_eff (e_mk1 rfl rfl (by simp [Value.oneCell']) rfl rfl rfl) rfl ?_
        rintro _ _ ⟨b22, rfl, rfl⟩
        refine l_heap (H' := arr b o xs s * (HP.pts b22 0 (flat [(2 : UInt8)]) * (HP.pts b3 0 (encRF r) * H))) (by show HP.pts b22 0 (flat [(2 : UInt8)]) * _ = _; ac_rfl) ?_
        refine l_eff (e_append (ys := [(2 : UInt8)]) (bb := b22) (oo := 0) (cc := 1) rfl hs hc rfl ⟨.inr rfl, Nat.le_refl _⟩ inferInstance rfl (by simp only [List.length_singleton]; omega) (by omega)) rfl ?_
        rintro _ _ ⟨p23, b23, o23, c23, s23, rfl, hs23, hc23, rfl⟩
        refine l_val (v_assign rfl) rfl ?_
        refine l_nil ?_
        refine a_normal ?_
        refine w_seq ?_
        refine w_region rfl ?_
        refine l_val (v_move rfl) rfl ?_
        refine l_val (v_fieldAddr rfl) rfl ?_
        refine l_val (v_load rfl trivial) rfl ?_
        refine l_val (v_indexAddrR (i := 0) (b := r.b) (o := r.o) rfl rfl hm.ok hne) rfl ?_
        refine l_val (v_fieldAddr rfl) rfl ?_
        refine l_val (v_loadHi (i := 0) (xs := r.f.ranges) rfl inferInstance hne) rfl ?_
        refine l_eff (e_call rfl (rvarint_spec ((rg r.f.ranges 0).hi) h0.2.1 p23 b23 o23 c23 (xs ++ [2]) s23 _ hs23 hc23 (by simp only [List.length_append, List.length_cons, List.length_nil]; omega))) rfl ?_
        rintro _ _ ⟨p30, b30, o30, c30, s30, rfl, hs30, hc30, rfl⟩
        refine l_val (v_assign rfl) rfl ?_
        refine l_nil ?_
        refine a_normal ?_
        refine w_seq ?_
        refine w_region rfl ?_
        refine l_val (v_move rfl) rfl ?_
        refine l_val (v_fieldAddr rfl) rfl ?_
        refine l_val (v_load rfl trivial) rfl ?_
        refine l_val (v_lenS rfl) rfl ?_
        refine l_val (v_subI (j := 1) rfl rfl (by omega)) rfl ?_
        refine l_val (v_conv rfl (fit_u64 (by omega))) rfl ?_
        refine l_eff (e_call rfl (rvarint_spec (r.f.ranges.length - 1) (by omega) p30 b30 o30 c30 (xs ++ [2] ++ vint (rg r.f.ranges 0).hi) s30 _ hs30 hc30 (by simp only [List.length_append, List.length_cons, List.length_nil]; omega))) rfl ?_
        rintro _ _ ⟨p37, b37, o37, c37, s37, rfl, hs37, hc37, rfl⟩
        refine l_val (v_assign rfl) rfl ?_
        refine l_nil ?_
        refine a_normal ?_
        refine w_seq ?_
        refine w_ent (arr b37 o37 (xs ++ [2] ++ vint (rg r.f.ranges 0).hi ++ vint (r.f.ranges.length - 1)) s37 * (HP.pts b3 0 (encRF r) * H)) ?_
        refine w_any (HP.pts b3 0 (encRF r) * H) 12 14 mixed rfl (by kernel_rfl) ?_
        refine s_take 0 rfl (by kernel_rfl) rfl (v_move rfl) ?_
        refine s_take 1 rfl (by kernel_rfl) rfl (v_fieldAddr rfl) ?_
        refine s_take 2 rfl (by kernel_rfl) rfl (v_load rfl trivial) ?_
        refine s_take 3 rfl (by kernel_rfl) rfl (v_indexAddrR (i := 0) (b := r.b) (o := r.o) rfl rfl hm.ok hne) ?_
        refine s_take 4 rfl (by kernel_rfl) rfl (v_fieldAddr rfl) ?_
        refine s_take 5 rfl (by kernel_rfl) rfl (v_loadHi (i := 0) (xs := r.f.ranges) rfl inferInstance hne) ?_
        refine s_take 6 rfl (by kernel_rfl) rfl (v_fieldAddr rfl) ?_
        refine s_take 7 rfl (by kernel_rfl) rfl (v_load rfl trivial) ?_
        refine s_take 8 rfl (by kernel_rfl) rfl (v_indexAddrR (i := 0) (b := r.b) (o := r.o) rfl rfl hm.ok hne) ?_
        refine s_take 9 rfl (by kernel_rfl) rfl (v_fieldAddr rfl) ?_
        refine s_take 10 rfl (by kernel_rfl) rfl (v_loadLo (i := 0) (xs := r.f.ranges) rfl inferInstance hne) ?_
        refine s_take 11 rfl (by kernel_rfl) rfl (v_subU rfl rfl (by omega)) ?_
        refine s_eff 12 (by kernel_rfl) rfl rfl (e_call rfl (rvarint_spec ((rg r.f.ranges 0).hi - (rg r.f.ranges 0).lo) (by omega) p37 b37 o37 c37 (xs ++ [2] ++ vint (rg r.f.ranges 0).hi ++ vint (r.f.ranges.length - 1)) s37 _ hs37 hc37 (by simp only [List.length_append, List.length_cons, List.length_nil]; omega))) ?_
        rintro _ _ ⟨p50, b50, o50, c50, s50, rfl, hs50, hc50, rfl⟩
        refine ⟨.inl (by decide), ?_⟩
        refine s_val 13 (by kernel_rfl) rfl rfl (v_assign rfl) (.inl (by decide)) ?_
        refine s_done (by kernel_rfl) ?_
        refine a_normal ?_
        refine w_seq ?_
        refine w_seq ?_
        refine w_region rfl ?_
        refine l_val (v_assign (v := .int .i64 (1 : Nat)) rfl) rfl ?_
        refine l_nil ?_
        refine a_normal ?_
        refine w_block ?_
        generalize hpre : xs ++ [2] ++ vint (rg r.f.ranges 0).hi ++ vint (r.f.ranges.length - 1) ++ vint ((rg r.f.ranges 0).hi - (rg r.f.ranges 0).lo) = pre at *
        have hpl : pre.length < 200000000000 := by rw [← hpre]; simp only [List.length_append, List.length_cons, List.length_nil]; omega
        refine w_loop (α := Nat × Option Addr × Nat × Nat × Nat × List Value) (fun z => [(0, .slice z.2.1 (pre ++ encRs r.f.ranges z.1).length z.2.2.2.2.1), (3, ptr b3 0), (5, iN (z.1 + 1))]) (fun z => arr z.2.2.1 z.2.2.2.1 (pre ++ encRs r.f.ranges z.1) z.2.2.2.2.2 * (HP.pts b3 0 (encRF r) * H))
          (fun z => z.1 ≤ r.f.ranges.length - 1 ∧ Sl z.2.1 z.2.2.1 z.2.2.2.1 (pre ++ encRs r.f.ranges z.1).length z.2.2.2.2.1 ∧ (pre ++ encRs r.f.ranges z.1).length * 1 + z.2.2.2.2.2.length = z.2.2.2.2.1 * 1) (fun z => r.f.ranges.length - 1 - z.1) (0, p50, b50, o50, c50, s50) ⟨Nat.zero_le _, by simpa [encRs] using hs50, by simpa [encRs] using hc50⟩ (by simp only [encRs, List.append_nil]; exact .cons rfl (.cons rfl (.cons rfl .nil))) (by simp only [encRs, List.append_nil]) ?_
        rintro ⟨i, p9, b9, o9, c9, s9⟩ ⟨hi, hs9, hc9⟩
        dsimp only at hi hs9 hc9 ⊢
        have hel := encRs_length r.f.ranges i
        have hyl : (pre ++ encRs r.f.ranges i).length < 900000000000 := by simp only [List.length_append]; omega
        generalize hys : pre ++ encRs r.f.ranges i = ys at *
        refine w_seq ?_
        refine w_seq ?_
        refine w_region rfl ?_
        refine l_val (v_move rfl) rfl ?_
        refine l_val (v_fieldAddr rfl) rfl ?_
        refine l_val (v_load rfl trivial) rfl ?_
        refine l_val (v_lenS rfl) rfl ?_
        refine l_val (v_lss rfl rfl) rfl ?_
        refine l_nil ?_
        refine a_normal ?_
        refine w_condD rfl (fun hlt => ?_) (fun hlt => ?_)
        · skip
          have hk := hra.2 (i + 1) (by omega)
          have hk0 := hra.2 i (by omega)
          unfold okR at hk hk0
          simp only [Nat.add_sub_cancel] at hk
          have v1 := vint_length ((rg r.f.ranges i).lo - (rg r.f.ranges (i + 1)).hi - 2)
          refine w_skip ?_
          refine a_normal ?_
          refine w_seq ?_
          refine w_block ?_
          refine w_seq ?_
          refine w_any (HP.pts b3 0 (encRF r) * H) 16 18 mixed rfl (by kernel_rfl) ?_
          refine s_take 0 rfl (by kernel_rfl) rfl (v_move rfl) ?_
          refine s_take 1 rfl (by kernel_rfl) rfl (v_fieldAddr rfl) ?_
          refine s_take 2 rfl (by kernel_rfl) rfl (v_load rfl trivial) ?_
          refine s_take 3 rfl (by kernel_rfl) rfl (v_move rfl) ?_
          refine s_take 4 rfl (by kernel_rfl) rfl (v_subI (i := i + 1) (j := 1) rfl rfl (by omega)) ?_
          refine s_take 5 rfl (by kernel_rfl) rfl (v_indexAddrRe (i := i + 1 - 1) (b := r.b) (o := r.o) (q := r.o + i * 2) rfl rfl hm.ok (by omega) (by omega)) ?_
          refine s_take 6 rfl (by kernel_rfl) rfl (v_fieldAddr rfl) ?_
          refine s_take 7 rfl (by kernel_rfl) rfl (v_loadLo (i := i) (xs := r.f.ranges) rfl inferInstance (by omega)) ?_
          refine s_take 8 rfl (by kernel_rfl) rfl (v_fieldAddr rfl) ?_
          refine s_take 9 rfl (by kernel_rfl) rfl (v_load rfl trivial) ?_
          refine s_take 10 rfl (by kernel_rfl) rfl (v_move rfl) ?_
          refine s_take 11 rfl (by kernel_rfl) rfl (v_indexAddrR (i := i + 1) (b := r.b) (o := r.o) rfl rfl hm.ok (by omega)) ?_
          refine s_take 12 rfl (by kernel_rfl) rfl (v_fieldAddr rfl) ?_
          refine s_take 13 rfl (by kernel_rfl) rfl (v_loadHi (i := i + 1) (xs := r.f.ranges) rfl inferInstance (by omega)) ?_
          refine s_take 14 rfl (by kernel_rfl) rfl (v_subU rfl rfl (by omega)) ?_
          refine s_take 15 rfl (by kernel_rfl) rfl (v_subU (j := 2) rfl rfl (by omega)) ?_
          refine s_eff 16 (by kernel_rfl) rfl rfl (e_call rfl (rvarint_spec ((rg r.f.ranges i).lo - (rg r.f.ranges (i + 1)).hi - 2) (by omega) p9 b9 o9 c9 ys s9 _ hs9 hc9 (by omega))) ?_
          rintro _ _ ⟨p74, b74, o74, c74, s74, rfl, hs74, hc74, rfl⟩
          refine ⟨.inl (by decide), ?_⟩
          refine s_val 17 (by kernel_rfl) rfl rfl (v_assign rfl) (.inl (by decide)) ?_
          refine s_done (by kernel_rfl) ?_
          refine a_normal ?_
          refine w_any (HP.pts b3 0 (encRF r) * H) 14 16 mixed rfl (by kernel_rfl) ?_
          refine s_take 0 rfl (by kernel_rfl) rfl (v_move rfl) ?_
          refine s_take 1 rfl (by kernel_rfl) rfl (v_fieldAddr rfl) ?_
          refine s_take 2 rfl (by kernel_rfl) rfl (v_load rfl trivial) ?_
          refine s_take 3 rfl (by kernel_rfl) rfl (v_move rfl) ?_
          refine s_take 4 rfl (by kernel_rfl) rfl (v_indexAddrR (i := i + 1) (b := r.b) (o := r.o) rfl rfl hm.ok (by omega)) ?_
          refine s_take 5 rfl (by kernel_rfl) rfl (v_fieldAddr rfl) ?_
          refine s_take 6 rfl (by kernel_rfl) rfl (v_loadHi (i := i + 1) (xs := r.f.ranges) rfl inferInstance (by omega)) ?_
          refine s_take 7 rfl (by kernel_rfl) rfl (v_fieldAddr rfl) ?_
          refine s_take 8 rfl (by kernel_rfl) rfl (v_load rfl trivial) ?_
          refine s_take 9 rfl (by kernel_rfl) rfl (v_move rfl) ?_
          refine s_take 10 rfl (by kernel_rfl) rfl (v_indexAddrR (i := i + 1) (b := r.b) (o := r.o) rfl rfl hm.ok (by omega)) ?_
          refine s_take 11 rfl (by kernel_rfl) rfl (v_fieldAddr rfl) ?_
          refine s_take 12 rfl (by kernel_rfl) rfl (v_loadLo (i := i + 1) (xs := r.f.ranges) rfl inferInstance (by omega)) ?_
          refine s_take 13 rfl (by kernel_rfl) rfl (v_subU rfl rfl (by omega)) ?_
          refine s_eff 14 (by kernel_rfl) rfl rfl (e_call rfl (rvarint_spec ((rg r.f.ranges (i + 1)).hi - (rg r.f.ranges (i + 1)).lo) (by omega) p74 b74 o74 c74 (ys ++ vint ((rg r.f.ranges i).lo - (rg r.f.ranges (i + 1)).hi - 2)) s74 _ hs74 hc74 (by simp only [List.length_append]; omega))) ?_
          rintro _ _ ⟨p89, b89, o89, c89, s89, rfl, hs89, hc89, rfl⟩
          rw [← hys, enc_step] at hs89 hc89 ⊢
          refine ⟨.inl (by decide), ?_⟩
          refine s_val 15 (by kernel_rfl) rfl rfl (v_assign rfl) (.inl (by decide)) ?_
          refine s_done (by kernel_rfl) ?_
          refine a_bnormal ?_
          refine a_normal ?_
          refine w_region rfl ?_
          refine l_val (v_move rfl) rfl ?_
          refine l_val (v_addI (i := i + 1) (j := 1) rfl rfl (by omega)) rfl ?_
          refine l_val (v_assign rfl) rfl ?_
          refine l_nil ?_
          exact a_ent (arr b89 o89 (pre ++ encRs r.f.ranges (i + 1)) s89 * (HP.pts b3 0 (encRF r) * H)) (a_loop (i + 1, p89, b89, o89, c89, s89) ⟨by omega, hs89, hc89⟩ (by show r.f.ranges.length - 1 - (i + 1) < r.f.ranges.length - 1 - i; omega) (.cons rfl (.cons rfl (.cons rfl .nil))) rfl)
        · skip
          have hie : i = r.f.ranges.length - 1 := by omega
          refine w_exit ?_
          refine a_texit ?_
          refine a_texit ?_
          refine a_bexit ?_
          refine a_normal ?_
          refine w_seq ?_
          refine w_region rfl ?_
          refine l_val (v_move rfl) rfl ?_
          refine l_val (v_assign rfl) rfl ?_
          refine l_nil ?_
          refine a_normal ?_
          refine w_ret ?_
          refine a_bret ?_
          refine a_tret ?_
          subst hie
          rw [← hys] at hs9 hc9 ⊢
          rw [← hpre] at hs9 hc9 ⊢
          exact a_retD (ts := [4]) (arr b9 o9 (xs ++ [2] ++ vint (rg r.f.ranges 0).hi ++ vint (r.f.ranges.length - 1) ++ vint ((rg r.f.ranges 0).hi - (rg r.f.ranges 0).lo) ++ encRs r.f.ranges (r.f.ranges.length - 1)) s9 * H) rfl rfl (by rw [show xs ++ encF r.f = xs ++ [2] ++ vint (rg r.f.ranges 0).hi ++ vint (r.f.ranges.length - 1) ++ vint ((rg r.f.ranges 0).hi - (rg r.f.ranges 0).lo) ++ encRs r.f.ranges (r.f.ranges.length - 1) by simp [encF, hk3, encA]]; exact ⟨p9, b9, o9, c9, s9, rfl, hs9, hc9, rfl⟩)
      · skip
        refine w_seq ?_
        refine w_region rfl ?_
        refine l_val (v_eqlZ (i := r.f.kind) (j := 4) rfl rfl) rfl ?_
        refine l_val (v_assign rfl) rfl ?_
        refine l_nil ?_
        refine a_normal ?_
        refine w_condD rfl (fun hk4 => ?_) (fun hk4 => ?_)
        · skip
          refine w_seq ?_
          refine w_region rfl ?_
          refine l_val (v_move rfl) rfl ?_
          refine l_eff (e_mk1 rfl rfl (by simp [Value.oneCell']) rfl rfl rfl) rfl ?_
          rintro _ _ ⟨b94, rfl, rfl⟩
          refine l_heap (H' := arr b o xs s * (HP.pts b94 0 (flat [(4 : UInt8)]) * (HP.pts b3 0 (encRF r) * H))) (by show HP.pts b94 0 (flat [(4 : UInt8)]) * _ = _; ac_rfl) ?_
          refine l_eff (e_append (ys := [(4 : UInt8)]) (bb := b94) (oo := 0) (cc := 1) rfl hs hc rfl ⟨.inr rfl, Nat.le_refl _⟩ inferInstance rfl (by simp only [List.length_singleton]; omega) (by omega)) rfl ?_
          rintro _ _ ⟨p95, b95, o95, c95, s95, rfl, hs95, hc95, rfl⟩
          refine l_val (v_assign rfl) rfl ?_
          refine l_nil ?_
          refine a_normal ?_
          refine w_seq ?_
          refine w_region rfl ?_
          refine l_val (v_move rfl) rfl ?_
          refine l_val (v_fieldAddr rfl) rfl ?_
          refine l_val (v_load rfl trivial) rfl ?_
          refine l_val (v_conv (i := r.f.stream.toNat) (congrArg (fun z => some (Value.int .i64 z)) hst) (fit_u64 (by omega))) rfl ?_
          refine l_eff (e_call rfl (rvarint_spec (r.f.stream.toNat) (by omega) p95 b95 o95 c95 (xs ++ [4]) s95 _ hs95 hc95 (by simp only [List.length_append, List.length_cons, List.length_nil]; omega))) rfl ?_
          rintro _ _ ⟨p100, b100, o100, c100, s100, rfl, hs100, hc100, rfl⟩
          refine l_val (v_assign rfl) rfl ?_
          refine l_nil ?_
          refine a_normal ?_
          refine w_seq ?_
          refine w_region rfl ?_
          refine l_val (v_move rfl) rfl ?_
          refine l_val (v_fieldAddr rfl) rfl ?_
          refine l_val (v_load rfl trivial) rfl ?_
          refine l_eff (e_call rfl (rvarint_spec (r.f.code) hcd p100 b100 o100 c100 (xs ++ [4] ++ vint r.f.stream.toNat) s100 _ hs100 hc100 (by simp only [List.length_append, List.length_cons, List.length_nil]; omega))) rfl ?_
          rintro _ _ ⟨p104, b104, o104, c104, s104, rfl, hs104, hc104, rfl⟩
          refine l_val (v_assign rfl) rfl ?_
          refine l_nil ?_
          refine a_normal ?_
          refine w_seq ?_
          refine w_region rfl ?_
          refine l_val (v_move rfl) rfl ?_
          refine l_val (v_fieldAddr rfl) rfl ?_
          refine l_val (v_load rfl trivial) rfl ?_
          refine l_eff (e_call rfl (rvarint_spec (r.f.offset) hof p104 b104 o104 c104 (xs ++ [4] ++ vint r.f.stream.toNat ++ vint r.f.code) s104 _ hs104 hc104 (by simp only [List.length_append, List.length_cons, List.length_nil]; omega))) rfl ?_
          rintro _ _ ⟨p108, b108, o108, c108, s108, rfl, hs108, hc108, rfl⟩
          refine l_val (v_assign rfl) rfl ?_
          refine l_nil ?_
          refine a_normal ?_
          refine w_ret ?_
          refine a_bret ?_
          refine a_tret ?_
          exact a_retD (ts := [4]) (arr b108 o108 (xs ++ [4] ++ vint r.f.stream.toNat ++ vint r.f.code ++ vint r.f.offset) s108 * H) rfl rfl (by rw [show xs ++ encF r.f = xs ++ [4] ++ vint r.f.stream.toNat ++ vint r.f.code ++ vint r.f.offset by simp [encF, hk4]]; exact ⟨p108, b108, o108, c108, s108, rfl, hs108, hc108, rfl⟩)
        · skip
          refine w_seq ?_
          refine w_region rfl ?_
          refine l_val (v_eqlZ (i := r.f.kind) (j := 5) rfl rfl) rfl ?_
          refine l_val (v_assign rfl) rfl ?_
          refine l_nil ?_
          refine a_normal ?_
          refine w_condD rfl (fun hk5 => ?_) (fun hk5 => ?_)
          · skip
            refine w_seq ?_
            refine w_region rfl ?_
            refine l_val (v_assign (v := .int .u8 (8 : Nat)) rfl) rfl ?_
            refine l_nil ?_
            refine a_normal ?_
            refine w_seq ?_
            refine w_seq ?_
            refine w_region rfl ?_
            refine l_val (v_fieldAddr rfl) rfl ?_
            refine l_val (v_load rfl trivial) rfl ?_
            refine l_nil ?_
            refine a_normal ?_
            refine w_cut (α := Unit) (fun _ => [(0, .slice p xs.length c), (3, ptr b3 0), (6, u8 (bif r.f.fin then 9 else 8))]) (fun _ => HP.pts b3 0 (encRF r) * (arr b o xs s * H)) (fun _ => True) ?_ ?_
            · skip
              refine w_cond rfl (fun hc0 => ?_) (fun hc0 => ?_)
              · skip
                refine w_region rfl ?_
                refine l_val (v_assign (v := .int .u8 (9 : Nat)) rfl) rfl ?_
                refine l_nil ?_
                exact a_cut () trivial (by rw [hc0]; exact .cons rfl (.cons rfl (.cons rfl .nil))) rfl
              · skip
                refine w_skip ?_
                exact a_cut () trivial (by rw [hc0]; exact .cons rfl (.cons rfl (.cons rfl .nil))) rfl
            · rintro z hz
              refine a_normal ?_
              refine w_seq ?_
              refine w_region rfl ?_
              refine l_val (v_move rfl) rfl ?_
              refine l_val (v_move rfl) rfl ?_
              refine l_eff (e_mk1 rfl rfl (by simp [Value.oneCell']) rfl rfl rfl) rfl ?_
              rintro _ _ ⟨b115, rfl, rfl⟩
              refine l_heap (H' := arr b o xs s * (HP.pts b115 0 (flat [(bif r.f.fin then (9 : UInt8) else 8)]) * (HP.pts b3 0 (encRF r) * H))) (by show HP.pts b115 0 (flat [(bif r.f.fin then (9 : UInt8) else 8)]) * _ = _; ac_rfl) ?_
              refine l_eff (e_append (ys := [(bif r.f.fin then (9 : UInt8) else 8)]) (bb := b115) (oo := 0) (cc := 1) rfl hs hc rfl ⟨.inr rfl, Nat.le_refl _⟩ inferInstance rfl (by simp only [List.length_singleton]; omega) (by omega)) rfl ?_
              rintro _ _ ⟨p116, b116, o116, c116, s116, rfl, hs116, hc116, rfl⟩
              refine l_val (v_assign rfl) rfl ?_
              refine l_nil ?_
              refine a_normal ?_
              refine w_seq ?_
              refine w_region rfl ?_
              refine l_val (v_move rfl) rfl ?_
              refine l_val (v_fieldAddr rfl) rfl ?_
              refine l_val (v_load rfl trivial) rfl ?_
              refine l_val (v_conv (i := r.f.stream.toNat) (congrArg (fun z => some (Value.int .i64 z)) hst) (fit_u64 (by omega))) rfl ?_
              refine l_eff (e_call rfl (rvarint_spec (r.f.stream.toNat) (by omega) p116 b116 o116 c116 (xs ++ [bif r.f.fin then 9 else 8]) s116 _ hs116 hc116 (by simp only [List.length_append, List.length_cons, List.length_nil]; omega))) rfl ?_
              rintro _ _ ⟨p121, b121, o121, c121, s121, rfl, hs121, hc121, rfl⟩
              refine l_val (v_assign rfl) rfl ?_
              refine l_nil ?_
              refine a_normal ?_
              refine w_seq ?_
              refine w_region rfl ?_
              refine l_val (v_move rfl) rfl ?_
              refine l_val (v_fieldAddr rfl) rfl ?_
              refine l_val (v_load rfl trivial) rfl ?_
              refine l_eff (e_call rfl (rvarint_spec (r.f.offset) hof p121 b121 o121 c121 (xs ++ [bif r.f.fin then 9 else 8] ++ vint r.f.stream.toNat) s121 _ hs121 hc121 (by simp only [List.length_append, List.length_cons, List.length_nil]; omega))) rfl ?_
              rintro _ _ ⟨p125, b125, o125, c125, s125, rfl, hs125, hc125, rfl⟩
              refine l_val (v_assign rfl) rfl ?_
              refine l_nil ?_
              refine a_normal ?_
              refine w_seq ?_
              refine w_region rfl ?_
              refine l_val (v_move rfl) rfl ?_
              refine l_val (v_fieldAddr rfl) rfl ?_
              refine l_val (v_load rfl trivial) rfl ?_
              refine l_val (v_lenStr rfl) rfl ?_
              refine l_val (v_conv rfl (fit_u64 (by have := hm.size; omega))) rfl ?_
              refine l_eff (e_call rfl (rvarint_spec (r.f.data.size) (by have := hm.size; omega) p125 b125 o125 c125 (xs ++ [bif r.f.fin then 9 else 8] ++ vint r.f.stream.toNat ++ vint r.f.offset) s125 _ hs125 hc125 (by simp only [List.length_append, List.length_cons, List.length_nil]; omega))) rfl ?_
              rintro _ _ ⟨p131, b131, o131, c131, s131, rfl, hs131, hc131, rfl⟩
              refine l_val (v_assign rfl) rfl ?_
              refine l_nil ?_
              refine a_normal ?_
              refine w_seq ?_
              refine w_region rfl ?_
              refine l_val (v_move rfl) rfl ?_
              refine l_val (v_fieldAddr rfl) rfl ?_
              refine l_val (v_load rfl trivial) rfl ?_
              refine l_eff (e_appendStr (str := r.f.data) rfl hs131 hc131 rfl rfl (by have := hm.size; simp only [List.length_append, List.length_cons, List.length_nil]; omega) (by omega)) rfl ?_
              rintro _ _ ⟨p135, b135, o135, c135, s135, rfl, hs135, hc135, rfl⟩
              refine l_val (v_assign rfl) rfl ?_
              refine l_nil ?_
              refine a_normal ?_
              refine w_ret ?_
              refine a_bret ?_
              refine a_tret ?_
              exact a_retD (ts := [4]) (arr b135 o135 (xs ++ [bif r.f.fin then 9 else 8] ++ vint r.f.stream.toNat ++ vint r.f.offset ++ vint r.f.data.size ++ r.f.data.data.toList) s135 * H) rfl rfl (by rw [show xs ++ encF r.f = xs ++ [bif r.f.fin then 9 else 8] ++ vint r.f.stream.toNat ++ vint r.f.offset ++ vint r.f.data.size ++ r.f.data.data.toList by simp [encF, hk5]]; exact ⟨p135, b135, o135, c135, s135, rfl, hs135, hc135, rfl⟩)
          · skip
            refine w_skip ?_
            refine a_bnormal ?_
            refine a_normal ?_
            refine w_seq ?_
            refine w_region rfl ?_
            refine l_val (v_move rfl) rfl ?_
            refine l_eff (e_mk1 rfl rfl (by simp [Value.oneCell']) rfl rfl rfl) rfl ?_
            rintro _ _ ⟨b137, rfl, rfl⟩
            refine l_heap (H' := arr b o xs s * (HP.pts b137 0 (flat [(28 : UInt8)]) * (HP.pts b3 0 (encRF r) * H))) (by show HP.pts b137 0 (flat [(28 : UInt8)]) * _ = _; ac_rfl) ?_
            refine l_eff (e_append (ys := [(28 : UInt8)]) (bb := b137) (oo := 0) (cc := 1) rfl hs hc rfl ⟨.inr rfl, Nat.le_refl _⟩ inferInstance rfl (by simp only [List.length_singleton]; omega) (by omega)) rfl ?_
            rintro _ _ ⟨p138, b138, o138, c138, s138, rfl, hs138, hc138, rfl⟩
            refine l_val (v_assign rfl) rfl ?_
            refine l_nil ?_
            refine a_normal ?_
            refine w_seq ?_
            refine w_region rfl ?_
            refine l_val (v_move rfl) rfl ?_
            refine l_val (v_fieldAddr rfl) rfl ?_
            refine l_val (v_load rfl trivial) rfl ?_
            refine l_eff (e_call rfl (rvarint_spec (r.f.code) hcd p138 b138 o138 c138 (xs ++ [28]) s138 _ hs138 hc138 (by simp only [List.length_append, List.length_cons, List.length_nil]; omega))) rfl ?_
            rintro _ _ ⟨p142, b142, o142, c142, s142, rfl, hs142, hc142, rfl⟩
            refine l_val (v_assign rfl) rfl ?_
            refine l_nil ?_
            refine a_normal ?_
            refine w_ret ?_
            exact a_retD (ts := [4]) (arr b142 o142 (xs ++ [28] ++ vint r.f.code) s142 * H) rfl rfl (by rw [show xs ++ encF r.f = xs ++ [28] ++ vint r.f.code by simp [encF, hk1, hk2, hk3, hk4, hk5]]; exact ⟨p142, b142, o142, c142, s142, rfl, hs142, hc142, rfl⟩)

theorem rencode_spec (fs : List Frm) (p : Option Addr) (c b o : Nat) (rs : List RF) (H : HP) (hfs : RdFs B H p c fs b o rs) (hmd : ∀ r ∈ rs, Mod r) (hn : fs.length < 10000000000) (hel : (encAll fs).length < 100000000000) :
    Fn Tryd.prog B 14 [.slice p fs.length c] H (fun v H' => match encL fs with
      | none => v = .tuple #[.slice none 0 0, .int .i64 5] ∧ H' = H
      | some ys => ∃ sv, v = .tuple #[sv, .int .i64 0] ∧ IsSl H ys sv H') := by
  refine fn_intro Tryd.func14 rfl rfl rfl ?_
  have hrl := hfs.len
  refine w_seq ?_
  refine w_region rfl ?_
  refine l_val (v_assign rfl) rfl ?_
  refine l_val (v_assign (v := .int .i64 (0 : Nat)) rfl) rfl ?_
  refine l_nil ?_
  refine a_normal ?_
  refine w_seq ?_
  refine w_region rfl ?_
  refine l_val (v_move rfl) rfl ?_
  refine l_val (v_lenS rfl) rfl ?_
  refine l_val (v_gtr (j := 0) rfl rfl) rfl ?_
  refine l_val (v_assign rfl) rfl ?_
  refine l_nil ?_
  refine a_normal ?_
  refine w_seq ?_
  refine w_seq ?_
  refine w_region rfl ?_
  refine l_val (v_assign (v := .int .i64 (0 : Nat)) rfl) rfl ?_
  refine l_nil ?_
  refine a_normal ?_
  refine w_block ?_
  refine w_loop (α := Nat × Bool) (fun z => [(0, .slice p fs.length c), (4, .bool z.2), (5, iN z.1)]) (fun _ => H) (fun z => z.1 ≤ fs.length ∧ (z.2 = true ↔ (0 < fs.length ∧ ∀ j, j < z.1 → okF (rs.getD j Lay.dflt).f))) (fun z => fs.length - z.1) (0, decide (0 < fs.length)) ⟨Nat.zero_le _, by simp⟩ (.cons rfl (.cons rfl (.cons rfl .nil))) rfl ?_
  rintro ⟨i, ok⟩ ⟨hi, hokk⟩
  dsimp only at hi hokk ⊢
  refine w_seq ?_
  refine w_seq ?_
  refine w_region rfl ?_
  refine l_val (v_move rfl) rfl ?_
  refine l_val (v_move rfl) rfl ?_
  refine l_val (v_lenS rfl) rfl ?_
  refine l_val (v_lss rfl rfl) rfl ?_
  refine l_val (v_move rfl) rfl ?_
  refine l_case 15 rfl (fun hg1 => ?_) (fun hg1 => ?_)
  · skip
    have hlt := hg1
    refine l_gY rfl rfl rfl (decide_eq_true hg1) ?_
    refine l_val (v_move rfl) rfl ?_
    refine l_val (v_pickY (decide_eq_true hg1) rfl rfl) rfl ?_
    refine l_nil ?_
    refine a_normal ?_
    refine w_cond rfl (fun hgo => ?_) (fun hgo => ?_)
    · skip
      have hmem : (rs.getD i Lay.dflt) ∈ rs := by rw [getD_in _ _ _ (by omega)]; exact List.getElem_mem _
      have hri : (rs.getD i Lay.dflt).f = fs[i] := by
        have := hfs.map; subst this
        rw [getD_in _ _ _ (by omega), List.getElem_map]
      have hrr := hfs.rds _ hmem
      refine w_skip ?_
      refine a_normal ?_
      refine w_seq ?_
      refine w_block ?_
      refine w_region rfl ?_
      refine l_val (v_move rfl) rfl ?_
      refine l_val (v_move rfl) rfl ?_
      refine l_val (v_indexAddrR (b := b) (o := o) rfl rfl hfs.sl hlt) rfl ?_
      refine l_val (v_loadE (i := i) (o := o) (xs := rs) rfl (let _ := hfs.rd; inferInstance) (by omega)) rfl ?_
      refine l_eff (e_call rfl (rsound_spec (rs.getD i Lay.dflt) H (hmd _ hmem) hrr)) rfl ?_
      rintro _ _ ⟨rfl, rfl⟩
      refine l_val (v_assign rfl) rfl ?_
      refine l_nil ?_
      refine a_bnormal ?_
      refine a_normal ?_
      refine w_region rfl ?_
      refine l_val (v_move rfl) rfl ?_
      refine l_val (v_addI (j := 1) rfl rfl (by omega)) rfl ?_
      refine l_val (v_assign rfl) rfl ?_
      refine l_nil ?_
      refine a_loop (i + 1, decide (okF (rs.getD i Lay.dflt).f)) ⟨by omega, ?_⟩ (by show fs.length - (i + 1) < fs.length - i; omega) (.cons rfl (.cons rfl (.cons rfl .nil))) rfl
      rw [decide_eq_true_iff]
      constructor
      · intro h
        refine ⟨by omega, fun j hj => ?_⟩
        rcases Nat.lt_succ_iff_lt_or_eq.1 hj with h2 | rfl
        · exact (hokk.1 hgo).2 j h2
        · exact h
      · intro h; exact h.2 i (by omega)
    · skip
      skip
      refine w_exit ?_
      refine a_texit ?_
      refine a_texit ?_
      refine a_bexit ?_
      refine a_normal ?_
      refine w_seq ?_
      refine w_seq ?_
      refine w_region rfl ?_
      refine l_val (v_move rfl) rfl ?_
      refine l_val (v_not rfl) rfl ?_
      refine l_nil ?_
      refine a_normal ?_
      refine w_cond rfl (fun hno => ?_) (fun hno => ?_)
      · skip
        have hbad : encL fs = none := by
          rw [encL, if_neg]
          intro h
          have hok2 : ok = false := by cases ok <;> simp_all
          rw [hok2] at hokk
          have : false = true := hokk.2 ⟨List.length_pos_iff.2 h.1, fun j hj => by
            have hj2 : j < rs.length := by omega
            rw [getD_in _ _ _ hj2]
            exact h.2 _ (hfs.map ▸ List.mem_map.2 ⟨_, List.getElem_mem hj2, rfl⟩)⟩
          cases this
        refine w_seq ?_
        refine w_region rfl ?_
        refine l_val (v_assign rfl) rfl ?_
        refine l_val (v_assign (v := .int .i64 (5 : Nat)) rfl) rfl ?_
        refine l_nil ?_
        refine a_normal ?_
        refine w_ret ?_
        refine a_tret ?_
        exact a_retD (ts := [2, 3]) H rfl rfl (by rw [hbad]; exact ⟨rfl, rfl⟩)
      · skip
        have hall : 0 < fs.length ∧ ∀ j, j < fs.length → okF (rs.getD j Lay.dflt).f := by
          have hok2 : ok = true := by cases ok <;> simp_all
          have h1 := hokk.1 hok2
          refine ⟨h1.1, fun j hj => h1.2 j ?_⟩
          first
          | omega
          | (exfalso; simp_all)
        clear hno hokk
        refine w_skip ?_
        refine a_normal ?_
        refine w_seq ?_
        refine w_region rfl ?_
        refine l_val (v_assign rfl) rfl ?_
        refine l_nil ?_
        refine a_normal ?_
        refine w_seq ?_
        refine w_seq ?_
        refine w_region rfl ?_
        refine l_val (v_assign (v := .int .i64 (0 : Nat)) rfl) rfl ?_
        refine l_nil ?_
        refine a_normal ?_
        refine w_block ?_
        refine w_loop (α := Nat × Option Addr × Nat × Nat × Nat × List Value) (fun z => [(0, .slice p fs.length c), (6, .slice z.2.1 (encAll (fs.take z.1)).length z.2.2.2.2.1), (7, iN z.1)]) (fun z => arr z.2.2.1 z.2.2.2.1 (encAll (fs.take z.1)) z.2.2.2.2.2 * H)
          (fun z => z.1 ≤ fs.length ∧ Sl z.2.1 z.2.2.1 z.2.2.2.1 (encAll (fs.take z.1)).length z.2.2.2.2.1 ∧ (encAll (fs.take z.1)).length * 1 + z.2.2.2.2.2.length = z.2.2.2.2.1 * 1) (fun z => fs.length - z.1) (0, none, 0, 0, 0, []) ⟨Nat.zero_le _, ⟨.inl rfl, Nat.le_refl _⟩, rfl⟩ (.cons rfl (.cons rfl (.cons rfl .nil))) (by show H = arr 0 0 ([] : List UInt8) [] * H; rw [arr_nil, HP.emp_mul]) ?_
        rintro ⟨i, q, qb, qo, qc, qs⟩ ⟨hi, hqs, hqc⟩
        dsimp only at hi hqs hqc ⊢
        have hql := encAll_le fs i
        refine w_seq ?_
        refine w_seq ?_
        refine w_region rfl ?_
        refine l_val (v_move rfl) rfl ?_
        refine l_val (v_move rfl) rfl ?_
        refine l_val (v_lenS rfl) rfl ?_
        refine l_val (v_lss rfl rfl) rfl ?_
        refine l_nil ?_
        refine a_normal ?_
        refine w_condD rfl (fun hlt => ?_) (fun hlt => ?_)
        · skip
          have hmem : (rs.getD i Lay.dflt) ∈ rs := by rw [getD_in _ _ _ (by omega)]; exact List.getElem_mem _
          have hri : (rs.getD i Lay.dflt).f = fs[i] := by
            have := hfs.map; subst this
            rw [getD_in _ _ _ (by omega), List.getElem_map]
          have hrr := hfs.rds _ hmem
          refine w_skip ?_
          refine a_normal ?_
          refine w_seq ?_
          refine w_block ?_
          refine w_region rfl ?_
          refine l_val (v_move rfl) rfl ?_
          refine l_val (v_move rfl) rfl ?_
          refine l_val (v_move rfl) rfl ?_
          refine l_val (v_indexAddrR (b := b) (o := o) rfl rfl hfs.sl hlt) rfl ?_
          refine l_val (v_loadE (i := i) (o := o) (xs := rs) rfl (let _ := hfs.rd; inferInstance) (by omega)) rfl ?_
          refine l_eff (e_call rfl (rwritten_spec (rs.getD i Lay.dflt) q qb qo qc (encAll (fs.take i)) qs H (hmd _ hmem) (hall.2 i hlt) hrr hqs hqc (by omega))) rfl ?_
          rintro _ _ ⟨p38, b38, o38, c38, s38, rfl, hs38, hc38, rfl⟩
          rw [hri, encAll_take fs i hlt] at hs38 hc38 ⊢
          refine l_val (v_assign rfl) rfl ?_
          refine l_nil ?_
          refine a_bnormal ?_
          refine a_normal ?_
          refine w_region rfl ?_
          refine l_val (v_move rfl) rfl ?_
          refine l_val (v_addI (j := 1) rfl rfl (by omega)) rfl ?_
          refine l_val (v_assign rfl) rfl ?_
          refine l_nil ?_
          refine a_loop (i + 1, p38, b38, o38, c38, s38) ⟨by omega, hs38, hc38⟩ (by show fs.length - (i + 1) < fs.length - i; omega) (.cons rfl (.cons rfl (.cons rfl .nil))) rfl
        · skip
          refine w_exit ?_
          refine a_texit ?_
          refine a_texit ?_
          refine a_bexit ?_
          refine a_normal ?_
          refine w_seq ?_
          refine w_region rfl ?_
          refine l_val (v_move rfl) rfl ?_
          refine l_val (v_assign rfl) rfl ?_
          refine l_val (v_assign (v := .int .i64 (0 : Nat)) rfl) rfl ?_
          refine l_nil ?_
          refine a_normal ?_
          refine w_ret ?_
          exact a_retD (ts := [2, 3]) (arr qb qo (encAll (fs.take i)) qs * H) rfl rfl (by
              obtain rfl : i = fs.length := by omega
              rw [List.take_length] at hqs hqc ⊢
              have hgood : fs ≠ [] ∧ ∀ f ∈ fs, okF f := ⟨List.length_pos_iff.1 hall.1, fun f hf => by
                have hm2 := hfs.map
                subst hm2
                obtain ⟨r, hr, rfl⟩ := List.mem_map.1 hf
                obtain ⟨j, hj, rfl⟩ := List.getElem_of_mem hr
                have := hall.2 j (by omega)
                rwa [getD_in _ _ _ hj] at this⟩
              rw [encL, if_pos hgood]
              exact ⟨_, rfl, q, qb, qo, qc, qs, rfl, hqs, hqc, rfl⟩)
  · skip
    have hlt := hg1
    refine l_gN rfl rfl rfl (decide_eq_false hg1) ?_
    refine l_val (v_pickN (decide_eq_false hg1) rfl rfl) rfl ?_
    refine l_nil ?_
    refine a_normal ?_
    refine w_condN rfl rfl ?_
    refine w_exit ?_
    refine a_texit ?_
    refine a_texit ?_
    refine a_bexit ?_
    refine a_normal ?_
    refine w_seq ?_
    refine w_seq ?_
    refine w_region rfl ?_
    refine l_val (v_move rfl) rfl ?_
    refine l_val (v_not rfl) rfl ?_
    refine l_nil ?_
    refine a_normal ?_
    refine w_cond rfl (fun hno => ?_) (fun hno => ?_)
    · skip
      have hbad : encL fs = none := by
        rw [encL, if_neg]
        intro h
        have hok2 : ok = false := by cases ok <;> simp_all
        rw [hok2] at hokk
        have : false = true := hokk.2 ⟨List.length_pos_iff.2 h.1, fun j hj => by
          have hj2 : j < rs.length := by omega
          rw [getD_in _ _ _ hj2]
          exact h.2 _ (hfs.map ▸ List.mem_map.2 ⟨_, List.getElem_mem hj2, rfl⟩)⟩
        cases this
      refine w_seq ?_
      refine w_region rfl ?_
      refine l_val (v_assign rfl) rfl ?_
      refine l_val (v_assign (v := .int .i64 (5 : Nat)) rfl) rfl ?_
      refine l_nil ?_
      refine a_normal ?_
      refine w_ret ?_
      refine a_tret ?_
      exact a_retD (ts := [2, 3]) H rfl rfl (by rw [hbad]; exact ⟨rfl, rfl⟩)
    · skip
      have hall : 0 < fs.length ∧ ∀ j, j < fs.length → okF (rs.getD j Lay.dflt).f := by
        have hok2 : ok = true := by cases ok <;> simp_all
        have h1 := hokk.1 hok2
        refine ⟨h1.1, fun j hj => h1.2 j ?_⟩
        first
        | omega
        | (exfalso; simp_all)
      clear hno hokk
      refine w_skip ?_
      refine a_normal ?_
      refine w_seq ?_
      refine w_region rfl ?_
      refine l_val (v_assign rfl) rfl ?_
      refine l_nil ?_
      refine a_normal ?_
      refine w_seq ?_
      refine w_seq ?_
      refine w_region rfl ?_
      refine l_val (v_assign (v := .int .i64 (0 : Nat)) rfl) rfl ?_
      refine l_nil ?_
      refine a_normal ?_
      refine w_block ?_
      refine w_loop (α := Nat × Option Addr × Nat × Nat × Nat × List Value) (fun z => [(0, .slice p fs.length c), (6, .slice z.2.1 (encAll (fs.take z.1)).length z.2.2.2.2.1), (7, iN z.1)]) (fun z => arr z.2.2.1 z.2.2.2.1 (encAll (fs.take z.1)) z.2.2.2.2.2 * H)
        (fun z => z.1 ≤ fs.length ∧ Sl z.2.1 z.2.2.1 z.2.2.2.1 (encAll (fs.take z.1)).length z.2.2.2.2.1 ∧ (encAll (fs.take z.1)).length * 1 + z.2.2.2.2.2.length = z.2.2.2.2.1 * 1) (fun z => fs.length - z.1) (0, none, 0, 0, 0, []) ⟨Nat.zero_le _, ⟨.inl rfl, Nat.le_refl _⟩, rfl⟩ (.cons rfl (.cons rfl (.cons rfl .nil))) (by show H = arr 0 0 ([] : List UInt8) [] * H; rw [arr_nil, HP.emp_mul]) ?_
      rintro ⟨i, q, qb, qo, qc, qs⟩ ⟨hi, hqs, hqc⟩
      dsimp only at hi hqs hqc ⊢
      have hql := encAll_le fs i
      refine w_seq ?_
      refine w_seq ?_
      refine w_region rfl ?_
      refine l_val (v_move rfl) rfl ?_
      refine l_val (v_move rfl) rfl ?_
      refine l_val (v_lenS rfl) rfl ?_
      refine l_val (v_lss rfl rfl) rfl ?_
      refine l_nil ?_
      refine a_normal ?_
      refine w_condD rfl (fun hlt => ?_) (fun hlt => ?_)
      · skip
        have hmem : (rs.getD i Lay.dflt) ∈ rs := by rw [getD_in _ _ _ (by omega)]; exact List.getElem_mem _
        have hri : (rs.getD i Lay.dflt).f = fs[i] := by
          have := hfs.map; subst this
          rw [getD_in _ _ _ (by omega), List.getElem_map]
        have hrr := hfs.rds _ hmem
        refine w_skip ?_
        refine a_normal ?_
        refine w_seq ?_
        refine w_block ?_
        refine w_region rfl ?_
        refine l_val (v_move rfl) rfl ?_
        refine l_val (v_move rfl) rfl ?_
        refine l_val (v_move rfl) rfl ?_
        refine l_val (v_indexAddrR (b := b) (o := o) rfl rfl hfs.sl hlt) rfl ?_
        refine l_val (v_loadE (i := i) (o := o) (xs := rs) rfl (let _ := hfs.rd; inferInstance) (by omega)) rfl ?_
        refine l_eff (e_call rfl (rwritten_spec (rs.getD i Lay.dflt) q qb qo qc (encAll (fs.take i)) qs H (hmd _ hmem) (hall.2 i hlt) hrr hqs hqc (by omega))) rfl ?_
        rintro _ _ ⟨p38, b38, o38, c38, s38, rfl, hs38, hc38, rfl⟩
        rw [hri, encAll_take fs i hlt] at hs38 hc38 ⊢
        refine l_val (v_assign rfl) rfl ?_
        refine l_nil ?_
        refine a_bnormal ?_
        refine a_normal ?_
        refine w_region rfl ?_
        refine l_val (v_move rfl) rfl ?_
        refine l_val (v_addI (j := 1) rfl rfl (by omega)) rfl ?_
        refine l_val (v_assign rfl) rfl ?_
        refine l_nil ?_
        refine a_loop (i + 1, p38, b38, o38, c38, s38) ⟨by omega, hs38, hc38⟩ (by show fs.length - (i + 1) < fs.length - i; omega) (.cons rfl (.cons rfl (.cons rfl .nil))) rfl
      · skip
        refine w_exit ?_
        refine a_texit ?_
        refine a_texit ?_
        refine a_bexit ?_
        refine a_normal ?_
        refine w_seq ?_
        refine w_region rfl ?_
        refine l_val (v_move rfl) rfl ?_
        refine l_val (v_assign rfl) rfl ?_
        refine l_val (v_assign (v := .int .i64 (0 : Nat)) rfl) rfl ?_
        refine l_nil ?_
        refine a_normal ?_
        refine w_ret ?_
        exact a_retD (ts := [2, 3]) (arr qb qo (encAll (fs.take i)) qs * H) rfl rfl (by
            obtain rfl : i = fs.length := by omega
            rw [List.take_length] at hqs hqc ⊢
            have hgood : fs ≠ [] ∧ ∀ f ∈ fs, okF f := ⟨List.length_pos_iff.1 hall.1, fun f hf => by
              have hm2 := hfs.map
              subst hm2
              obtain ⟨r, hr, rfl⟩ := List.mem_map.1 hf
              obtain ⟨j, hj, rfl⟩ := List.getElem_of_mem hr
              have := hall.2 j (by omega)
              rwa [getD_in _ _ _ hj] at this⟩
            rw [encL, if_pos hgood]
            exact ⟨_, rfl, q, qb, qo, qc, qs, rfl, hqs, hqc, rfl⟩)
end Go.Proofs.YtgfdlpcdjklcoaaDoor
