/- Contracts of package wire: frames read, by kind; no condition. -/
import Derived.Test.YtgfdlpcdjklcoaaDoorWire4
import Derived.Test.YtgfdlpcdjklcoaaDoorRec
namespace Go.Proofs.YtgfdlpcdjklcoaaDoor
open Go Go.RowKit
set_option linter.unusedVariables false
set_option maxRecDepth 20000
variable {B : World}
/-- a frame of which the kind alone is known -/
abbrev r0 (k : Int) (fin : Bool) : RF := ⟨⟨k, 0, 0, 0, fin, ⟨#[]⟩, []⟩, none, 0, 0, 0, []⟩
theorem kindOf_eq (t : UInt8) : kindOf t = if t.toNat = 0 then 1 else if t.toNat = 1 then 2 else if t.toNat = 2 then 3 else if t.toNat = 4 then 4 else if t.toNat = 8 ∨ t.toNat = 9 then 5 else if t.toNat = 28 then 6 else 0 := by
  unfold kindOf
  simp only [← UInt8.toNat_inj]
  rfl
theorem kindOf_ok (t : UInt8) (h : kindOf t ≠ 0) : kindOk (kindOf t) := by
  rw [kindOf_eq] at *
  unfold kindOk
  repeat' split
  all_goals first | omega | (exfalso; simp_all)

theorem kind_spec (t : UInt8) (H : HP) : Fn Tryd.prog B 62 [u8 t] H (fun v H' => v = .tuple #[iN (kindOf t), .bool (decide (kindOf t ≠ 0))] ∧ H' = H) := by
  refine fn_intro Tryd.func62 rfl rfl rfl ?_
  refine w_seq ?_
  refine w_region rfl ?_
  refine l_val (v_assign (v := .int .i64 (0 : Nat)) rfl) rfl ?_
  refine l_val (v_assign rfl) rfl ?_
  refine l_nil ?_
  refine a_normal ?_
  refine w_seq ?_
  refine w_seq ?_
  refine w_region rfl ?_
  refine l_val (v_move rfl) rfl ?_
  refine l_nil ?_
  refine a_normal ?_
  refine w_block ?_
  refine w_seq ?_
  refine w_region rfl ?_
  refine l_val (v_eql (i := t.toNat) (j := 0) rfl rfl) rfl ?_
  refine l_val (v_assign rfl) rfl ?_
  refine l_nil ?_
  refine a_normal ?_
  refine w_condD rfl (fun yt5 => ?_) (fun nt5 => ?_)
  · skip
    refine w_seq ?_
    refine w_region rfl ?_
    refine l_val (v_assign (v := .int .i64 (1 : Nat)) rfl) rfl ?_
    refine l_val (v_assign rfl) rfl ?_
    refine l_nil ?_
    refine a_normal ?_
    refine w_ret ?_
    refine a_bret ?_
    refine a_tret ?_
    first | (exfalso; omega) | exact a_ret (ts := [2, 3]) rfl rfl ⟨(by rw [kindOf_eq]; (repeat' split) <;> first | rfl | (exfalso; omega)), rfl⟩
  · skip
    refine w_seq ?_
    refine w_region rfl ?_
    refine l_val (v_eql (i := t.toNat) (j := 1) rfl rfl) rfl ?_
    refine l_val (v_assign rfl) rfl ?_
    refine l_nil ?_
    refine a_normal ?_
    refine w_condD rfl (fun yt7 => ?_) (fun nt7 => ?_)
    · skip
      refine w_seq ?_
      refine w_region rfl ?_
      refine l_val (v_assign (v := .int .i64 (2 : Nat)) rfl) rfl ?_
      refine l_val (v_assign rfl) rfl ?_
      refine l_nil ?_
      refine a_normal ?_
      refine w_ret ?_
      refine a_bret ?_
      refine a_tret ?_
      first | (exfalso; omega) | exact a_ret (ts := [2, 3]) rfl rfl ⟨(by rw [kindOf_eq]; (repeat' split) <;> first | rfl | (exfalso; omega)), rfl⟩
    · skip
      refine w_seq ?_
      refine w_region rfl ?_
      refine l_val (v_eql (i := t.toNat) (j := 2) rfl rfl) rfl ?_
      refine l_val (v_assign rfl) rfl ?_
      refine l_nil ?_
      refine a_normal ?_
      refine w_condD rfl (fun yt9 => ?_) (fun nt9 => ?_)
      · skip
        refine w_seq ?_
        refine w_region rfl ?_
        refine l_val (v_assign (v := .int .i64 (3 : Nat)) rfl) rfl ?_
        refine l_val (v_assign rfl) rfl ?_
        refine l_nil ?_
        refine a_normal ?_
        refine w_ret ?_
        refine a_bret ?_
        refine a_tret ?_
        first | (exfalso; omega) | exact a_ret (ts := [2, 3]) rfl rfl ⟨(by rw [kindOf_eq]; (repeat' split) <;> first | rfl | (exfalso; omega)), rfl⟩
      · skip
        refine w_seq ?_
        refine w_region rfl ?_
        refine l_val (v_eql (i := t.toNat) (j := 4) rfl rfl) rfl ?_
        refine l_val (v_assign rfl) rfl ?_
        refine l_nil ?_
        refine a_normal ?_
        refine w_condD rfl (fun yt11 => ?_) (fun nt11 => ?_)
        · skip
          refine w_seq ?_
          refine w_region rfl ?_
          refine l_val (v_assign (v := .int .i64 (4 : Nat)) rfl) rfl ?_
          refine l_val (v_assign rfl) rfl ?_
          refine l_nil ?_
          refine a_normal ?_
          refine w_ret ?_
          refine a_bret ?_
          refine a_tret ?_
          first | (exfalso; omega) | exact a_ret (ts := [2, 3]) rfl rfl ⟨(by rw [kindOf_eq]; (repeat' split) <;> first | rfl | (exfalso; omega)), rfl⟩
        · skip
          refine w_seq ?_
          refine w_seq ?_
          refine w_region rfl ?_
          refine l_val (v_eql (i := t.toNat) (j := 8) rfl rfl) rfl ?_
          refine l_val (v_assign rfl) rfl ?_
          refine l_nil ?_
          refine a_normal ?_
          refine w_condD rfl (fun yt13 => ?_) (fun nt13 => ?_)
          · skip
            refine w_skip ?_
            refine a_normal ?_
            refine w_condD rfl (fun yt13 => ?_) (fun nt13 => ?_)
            · skip
              refine w_seq ?_
              refine w_region rfl ?_
              refine l_val (v_assign (v := .int .i64 (5 : Nat)) rfl) rfl ?_
              refine l_val (v_assign rfl) rfl ?_
              refine l_nil ?_
              refine a_normal ?_
              refine w_ret ?_
              refine a_bret ?_
              refine a_tret ?_
              first | (exfalso; omega) | exact a_ret (ts := [2, 3]) rfl rfl ⟨(by rw [kindOf_eq]; (repeat' split) <;> first | rfl | (exfalso; omega)), rfl⟩
            · skip
              refine w_seq ?_
              refine w_region rfl ?_
              refine l_val (v_eql (i := t.toNat) (j := 28) rfl rfl) rfl ?_
              refine l_val (v_assign rfl) rfl ?_
              refine l_nil ?_
              refine a_normal ?_
              refine w_condD rfl (fun yt16 => ?_) (fun nt16 => ?_)
              · skip
                refine w_seq ?_
                refine w_region rfl ?_
                refine l_val (v_assign (v := .int .i64 (6 : Nat)) rfl) rfl ?_
                refine l_val (v_assign rfl) rfl ?_
                refine l_nil ?_
                refine a_normal ?_
                refine w_ret ?_
                refine a_bret ?_
                refine a_tret ?_
                first | (exfalso; omega) | exact a_ret (ts := [2, 3]) rfl rfl ⟨(by rw [kindOf_eq]; (repeat' split) <;> first | rfl | (exfalso; omega)), rfl⟩
              · skip
                refine w_skip ?_
                refine a_bnormal ?_
                refine a_normal ?_
                refine w_seq ?_
                refine w_region rfl ?_
                refine l_val (v_assign (v := .int .i64 (0 : Nat)) rfl) rfl ?_
                refine l_val (v_assign rfl) rfl ?_
                refine l_nil ?_
                refine a_normal ?_
                refine w_ret ?_
                first | (exfalso; omega) | exact a_ret (ts := [2, 3]) rfl rfl ⟨(by rw [kindOf_eq]; (repeat' split) <;> first | rfl | (exfalso; omega)), rfl⟩
          · skip
            refine w_region rfl ?_
            refine l_val (v_eql (i := t.toNat) (j := 9) rfl rfl) rfl ?_
            refine l_val (v_assign rfl) rfl ?_
            refine l_nil ?_
            refine a_normal ?_
            refine w_condD rfl (fun yt13 => ?_) (fun nt13 => ?_)
            · skip
              refine w_seq ?_
              refine w_region rfl ?_
              refine l_val (v_assign (v := .int .i64 (5 : Nat)) rfl) rfl ?_
              refine l_val (v_assign rfl) rfl ?_
              refine l_nil ?_
              refine a_normal ?_
              refine w_ret ?_
              refine a_bret ?_
              refine a_tret ?_
              first | (exfalso; omega) | exact a_ret (ts := [2, 3]) rfl rfl ⟨(by rw [kindOf_eq]; (repeat' split) <;> first | rfl | (exfalso; omega)), rfl⟩
            · skip
              refine w_seq ?_
              refine w_region rfl ?_
              refine l_val (v_eql (i := t.toNat) (j := 28) rfl rfl) rfl ?_
              refine l_val (v_assign rfl) rfl ?_
              refine l_nil ?_
              refine a_normal ?_
              refine w_condD rfl (fun yt16 => ?_) (fun nt16 => ?_)
              · skip
                refine w_seq ?_
                refine w_region rfl ?_
                refine l_val (v_assign (v := .int .i64 (6 : Nat)) rfl) rfl ?_
                refine l_val (v_assign rfl) rfl ?_
                refine l_nil ?_
                refine a_normal ?_
                refine w_ret ?_
                refine a_bret ?_
                refine a_tret ?_
                first | (exfalso; omega) | exact a_ret (ts := [2, 3]) rfl rfl ⟨(by rw [kindOf_eq]; (repeat' split) <;> first | rfl | (exfalso; omega)), rfl⟩
              · skip
                refine w_skip ?_
                refine a_bnormal ?_
                refine a_normal ?_
                refine w_seq ?_
                refine w_region rfl ?_
                refine l_val (v_assign (v := .int .i64 (0 : Nat)) rfl) rfl ?_
                refine l_val (v_assign rfl) rfl ?_
                refine l_nil ?_
                refine a_normal ?_
                refine w_ret ?_
                first | (exfalso; omega) | exact a_ret (ts := [2, 3]) rfl rfl ⟨(by rw [kindOf_eq]; (repeat' split) <;> first | rfl | (exfalso; omega)), rfl⟩

theorem own0 {r : RF} (h : r.f.ranges = []) (hc : r.c = 0) (hs : r.s = []) : r.ok ∧ r.own ∧ OwnR r = HP.emp := by
  refine ⟨?_, ?_, ?_⟩
  · unfold RF.ok; rw [h, hc]; exact ⟨.inl rfl, Nat.le_refl _⟩
  · unfold RF.own; rw [h, hc, hs]; rfl
  · unfold OwnR; rw [h, hs, arr_nil]

theorem bare2_x1 (rb fb : Nat) (fin : Bool) (p : Option Addr) (b o c : Nat) (xs : List UInt8) (a : Nat) (R : HP) (hs : Sl p b o xs.length c) (hr : RdA B R b o xs) (hx : xs.length < 100000000000) (ha : a ≤ xs.length) :
    FnX Tryd.prog B 93 [ptr rb 0, ptr fb 0] (rdr rb p c xs a * (HP.pts fb 0 (encRF (r0 1 fin)) * R)) (fun _ H' => ∃ r a', rdK xs 1 fin a = some (r.f, a') ∧ r.ok ∧ r.own ∧ H' = rdr rb p c xs a' * (HP.pts fb 0 (encRF r) * (OwnR r * R))) (fun ch H' => rdK xs 1 fin a = none ∧ ch = pnS ∧ H' = R) := by
  refine fn_introX Tryd.func93 rfl rfl rfl ?_
  refine w_skip ?_
  exact a_endX (ts := []) rfl rfl ⟨r0 1 fin, _, rfl, (own0 rfl rfl rfl).1, (own0 rfl rfl rfl).2.1, by rw [(own0 (r := r0 1 fin) rfl rfl rfl).2.2, HP.emp_mul]⟩

theorem bare2_x2 (rb fb : Nat) (fin : Bool) (p : Option Addr) (b o c : Nat) (xs : List UInt8) (a : Nat) (R : HP) (hs : Sl p b o xs.length c) (hr : RdA B R b o xs) (hx : xs.length < 100000000000) (ha : a ≤ xs.length) :
    FnX Tryd.prog B 93 [ptr rb 0, ptr fb 0] (rdr rb p c xs a * (HP.pts fb 0 (encRF (r0 2 fin)) * R)) (fun _ H' => ∃ r a', rdK xs 2 fin a = some (r.f, a') ∧ r.ok ∧ r.own ∧ H' = rdr rb p c xs a' * (HP.pts fb 0 (encRF r) * (OwnR r * R))) (fun ch H' => rdK xs 2 fin a = none ∧ ch = pnS ∧ H' = R) := by
  refine fn_introX Tryd.func93 rfl rfl rfl ?_
  refine w_skip ?_
  exact a_endX (ts := []) rfl rfl ⟨r0 2 fin, _, rfl, (own0 rfl rfl rfl).1, (own0 rfl rfl rfl).2.1, by rw [(own0 (r := r0 2 fin) rfl rfl rfl).2.2, HP.emp_mul]⟩

theorem of2_x (rb fb : Nat) (fin : Bool) (p : Option Addr) (b o c : Nat) (xs : List UInt8) (a : Nat) (R : HP) (hs : Sl p b o xs.length c) (hr : RdA B R b o xs) (hx : xs.length < 100000000000) (ha : a ≤ xs.length) :
    FnX Tryd.prog B 78 [ptr rb 0, ptr fb 0] (rdr rb p c xs a * (HP.pts fb 0 (encRF (r0 4 fin)) * R)) (fun _ H' => ∃ r a', rdK xs 4 fin a = some (r.f, a') ∧ r.ok ∧ r.own ∧ H' = rdr rb p c xs a' * (HP.pts fb 0 (encRF r) * (OwnR r * R))) (fun ch H' => rdK xs 4 fin a = none ∧ ch = pnS ∧ H' = R) := by
  refine fn_introX Tryd.func78 rfl rfl rfl ?_
  refine w_region rfl ?_
  refine l_val (v_move rfl) rfl ?_
  refine l_val (v_move rfl) rfl ?_
  refine l_val (v_move rfl) rfl ?_
  refine l_val (v_move rfl) rfl ?_
  refine l_effX (x_call rfl (stream_x rb p b o c xs a _ hs inferInstance hx (by omega))) rfl ?_ ?_
  rotate_left
  · rintro _ _ ⟨e8, rfl, rfl⟩
    exact a_panicXE R ⟨by unfold rdK; simp only [Nat.reduceEqDiff, if_false, if_true, e8], rfl, rfl⟩
  rintro _ _ ⟨n8, a8, e8, rfl, rfl⟩
  have g8 := rdS_some e8
  refine l_val (v_move rfl) rfl ?_
  refine l_effX (x_call rfl (varint_x rb p b o c xs a8 _ hs inferInstance hx (by omega))) rfl ?_ ?_
  rotate_left
  · rintro _ _ ⟨e10, rfl, rfl⟩
    exact a_panicXE R ⟨by unfold rdK; simp only [Nat.reduceEqDiff, if_false, if_true, e8, e10], rfl, rfl⟩
  rintro _ _ ⟨n10, a10, e10, rfl, rfl⟩
  have g10 := rdN_some e10
  refine l_val (v_move rfl) rfl ?_
  refine l_effX (x_call rfl (varint_x rb p b o c xs a10 _ hs inferInstance hx (by omega))) rfl ?_ ?_
  rotate_left
  · rintro _ _ ⟨e12, rfl, rfl⟩
    exact a_panicXE R ⟨by unfold rdK; simp only [Nat.reduceEqDiff, if_false, if_true, e8, e10, e12], rfl, rfl⟩
  rintro _ _ ⟨n12, a12, e12, rfl, rfl⟩
  have g12 := rdN_some e12
  refine l_val (v_nilCheck rfl) rfl ?_
  refine l_val (v_fieldAddr rfl) rfl ?_
  refine l_eff0 (e_store rfl rfl rfl (by first | trivial | omega)) ?_
  rintro _ _ ⟨rfl, rfl⟩
  refine l_val (v_nilCheck rfl) rfl ?_
  refine l_val (v_fieldAddr rfl) rfl ?_
  refine l_eff0 (e_store rfl rfl rfl (by first | trivial | omega)) ?_
  rintro _ _ ⟨rfl, rfl⟩
  refine l_val (v_nilCheck rfl) rfl ?_
  refine l_val (v_fieldAddr rfl) rfl ?_
  refine l_eff0 (e_store rfl rfl rfl (by first | trivial | omega)) ?_
  rintro _ _ ⟨rfl, rfl⟩
  refine l_nil ?_
  exact a_endX (ts := []) rfl rfl ⟨⟨⟨4, (n8 : Nat), n12, n10, fin, ⟨#[]⟩, []⟩, none, 0, 0, 0, []⟩, a12, by unfold rdK; simp only [Nat.reduceEqDiff, if_false, if_true, e8, e10, e12], (own0 rfl rfl rfl).1, (own0 rfl rfl rfl).2.1, by rw [(own0 (r := ⟨⟨4, (n8 : Nat), n12, n10, fin, ⟨#[]⟩, []⟩, none, 0, 0, 0, []⟩) rfl rfl rfl).2.2, HP.emp_mul]⟩

theorem of4_x (rb fb : Nat) (fin : Bool) (p : Option Addr) (b o c : Nat) (xs : List UInt8) (a : Nat) (R : HP) (hs : Sl p b o xs.length c) (hr : RdA B R b o xs) (hx : xs.length < 100000000000) (ha : a ≤ xs.length) :
    FnX Tryd.prog B 84 [ptr rb 0, ptr fb 0] (rdr rb p c xs a * (HP.pts fb 0 (encRF (r0 5 fin)) * R)) (fun _ H' => ∃ r a', rdK xs 5 fin a = some (r.f, a') ∧ r.ok ∧ r.own ∧ H' = rdr rb p c xs a' * (HP.pts fb 0 (encRF r) * (OwnR r * R))) (fun ch H' => rdK xs 5 fin a = none ∧ ch = pnS ∧ H' = R) := by
  refine fn_introX Tryd.func84 rfl rfl rfl ?_
  refine w_region rfl ?_
  refine l_val (v_move rfl) rfl ?_
  refine l_val (v_move rfl) rfl ?_
  refine l_val (v_move rfl) rfl ?_
  refine l_val (v_move rfl) rfl ?_
  refine l_effX (x_call rfl (stream_x rb p b o c xs a _ hs inferInstance hx (by omega))) rfl ?_ ?_
  rotate_left
  · rintro _ _ ⟨e8, rfl, rfl⟩
    exact a_panicXE R ⟨by unfold rdK; simp only [Nat.reduceEqDiff, if_false, if_true, e8], rfl, rfl⟩
  rintro _ _ ⟨n8, a8, e8, rfl, rfl⟩
  have g8 := rdS_some e8
  refine l_val (v_move rfl) rfl ?_
  refine l_effX (x_call rfl (varint_x rb p b o c xs a8 _ hs inferInstance hx (by omega))) rfl ?_ ?_
  rotate_left
  · rintro _ _ ⟨e10, rfl, rfl⟩
    exact a_panicXE R ⟨by unfold rdK; simp only [Nat.reduceEqDiff, if_false, if_true, e8, e10], rfl, rfl⟩
  rintro _ _ ⟨n10, a10, e10, rfl, rfl⟩
  have g10 := rdN_some e10
  refine l_val (v_move rfl) rfl ?_
  refine l_effX (x_call rfl (text_x rb p b o c xs a10 _ hs inferInstance hx (by omega))) rfl ?_ ?_
  rotate_left
  · rintro _ _ ⟨e12, rfl, rfl⟩
    exact a_panicXE R ⟨by unfold rdK; simp only [Nat.reduceEqDiff, if_false, if_true, e8, e10, e12], rfl, rfl⟩
  rintro _ _ ⟨n12, a12, e12, rfl, rfl⟩
  have g12 := rdT_some e12
  refine l_val (v_nilCheck rfl) rfl ?_
  refine l_val (v_fieldAddr rfl) rfl ?_
  refine l_eff0 (e_store rfl rfl rfl (by first | trivial | omega)) ?_
  rintro _ _ ⟨rfl, rfl⟩
  refine l_val (v_nilCheck rfl) rfl ?_
  refine l_val (v_fieldAddr rfl) rfl ?_
  refine l_eff0 (e_store rfl rfl rfl (by first | trivial | omega)) ?_
  rintro _ _ ⟨rfl, rfl⟩
  refine l_val (v_nilCheck rfl) rfl ?_
  refine l_val (v_fieldAddr rfl) rfl ?_
  refine l_eff0 (e_store rfl rfl rfl (by first | trivial | omega)) ?_
  rintro _ _ ⟨rfl, rfl⟩
  refine l_nil ?_
  exact a_endX (ts := []) rfl rfl ⟨⟨⟨5, (n8 : Nat), n10, 0, fin, bstr n12, []⟩, none, 0, 0, 0, []⟩, a12, by unfold rdK; simp only [Nat.reduceEqDiff, if_false, if_true, e8, e10, e12], (own0 rfl rfl rfl).1, (own0 rfl rfl rfl).2.1, by rw [(own0 (r := ⟨⟨5, (n8 : Nat), n10, 0, fin, bstr n12, []⟩, none, 0, 0, 0, []⟩) rfl rfl rfl).2.2, HP.emp_mul]⟩

theorem number2_x (bq : Nat) (rb fb : Nat) (fin : Bool) (p : Option Addr) (b o c : Nat) (xs : List UInt8) (a : Nat) (R : HP) (hs : Sl p b o xs.length c) (hr : RdA B R b o xs) (hx : xs.length < 100000000000) (ha : a ≤ xs.length) [hq : Rd B R bq 0 (fnV 88 []) True] :
    FnX Tryd.prog B 95 [ptr rb 0, ptr fb 0, ptr bq 0] (rdr rb p c xs a * (HP.pts fb 0 (encRF (r0 6 fin)) * R)) (fun _ H' => ∃ r a', rdK xs 6 fin a = some (r.f, a') ∧ r.ok ∧ r.own ∧ H' = rdr rb p c xs a' * (HP.pts fb 0 (encRF r) * (OwnR r * R))) (fun ch H' => rdK xs 6 fin a = none ∧ ch = pnS ∧ H' = R) := by
  refine fn_introX Tryd.func95 rfl rfl rfl ?_
  refine w_region rfl ?_
  refine l_val (v_load rfl trivial) rfl ?_
  refine l_val (v_move rfl) rfl ?_
  refine l_eff (e_callV rfl rfl (code_spec fb _)) rfl ?_
  rintro _ _ ⟨rfl, rfl⟩
  refine l_val (v_move rfl) rfl ?_
  refine l_effX (x_call rfl (varint_x rb p b o c xs a _ hs inferInstance hx (by omega))) rfl ?_ ?_
  rotate_left
  · rintro _ _ ⟨e9, rfl, rfl⟩
    exact a_panicXE R ⟨by unfold rdK; simp only [Nat.reduceEqDiff, if_false, if_true, e9], rfl, rfl⟩
  rintro _ _ ⟨n9, a9, e9, rfl, rfl⟩
  have g9 := rdN_some e9
  refine l_val (v_nilCheck rfl) rfl ?_
  refine l_eff0 (e_store rfl rfl rfl (by first | trivial | omega)) ?_
  rintro _ _ ⟨rfl, rfl⟩
  refine l_nil ?_
  exact a_endX (ts := []) rfl rfl ⟨⟨⟨6, 0, 0, n9, fin, ⟨#[]⟩, []⟩, none, 0, 0, 0, []⟩, a9, by unfold rdK; simp only [Nat.reduceEqDiff, if_false, if_true, e9], (own0 rfl rfl rfl).1, (own0 rfl rfl rfl).2.1, by rw [(own0 (r := ⟨⟨6, 0, 0, n9, fin, ⟨#[]⟩, []⟩, none, 0, 0, 0, []⟩) rfl rfl rfl).2.2, HP.emp_mul]⟩

structure AckSt where
  rs : List Rng
  hi : Nat
  n : Nat
  size : Nat
  a : Nat
  p : Option Addr
  b : Nat
  o : Nat
  c : Nat
  s : List Value
abbrev AckSt.rf (z : AckSt) (fin : Bool) : RF := ⟨⟨3, 0, 0, 0, fin, ⟨#[]⟩, z.rs⟩, z.p, z.b, z.o, z.c, z.s⟩
/-- what is still to be read -/
def ackRest (xs : List UInt8) (z : AckSt) : Option (List Rng × Nat) :=
  if z.size ≤ z.hi then match rdR xs z.n (z.hi - z.size) z.a with
    | some (rs', a4) => some (z.rs ++ ⟨z.hi - z.size, z.hi⟩ :: rs', a4)
    | none => none
  else none
theorem ack_begin {xs : List UInt8} {a hi a1 n a2 size a3 : Nat} (e1 : rdN xs a = some (hi, a1)) (e2 : rdN xs a1 = some (n, a2)) (e3 : rdN xs a2 = some (size, a3)) :
    rdA xs a = ackRest xs ⟨[], hi, n, size, a3, none, 0, 0, 0, []⟩ := by
  simp only [rdA, e1, e2, e3, ackRest, List.nil_append]
  split
  · cases rdR xs n (hi - size) a3 <;> rfl
  · rfl
theorem ack_bad {xs : List UInt8} {z : AckSt} (h : ¬ z.size ≤ z.hi) : ackRest xs z = none := by rw [ackRest, if_neg h]
theorem ack_end {xs : List UInt8} {z : AckSt} (h : z.size ≤ z.hi) (hn : z.n = 0) : ackRest xs z = some (z.rs ++ [(⟨z.hi - z.size, z.hi⟩ : Rng)], z.a) := by
  rw [ackRest, if_pos h, hn]; rfl
theorem ack_none1 {xs : List UInt8} {z : AckSt} {m : Nat} (hn : z.n = m + 1) (e : rdN xs z.a = none) : ackRest xs z = none := by
  rw [ackRest]
  split
  · simp only [hn, rdR, e]
  · rfl
theorem ack_none2 {xs : List UInt8} {z : AckSt} {m gap a1 : Nat} (hn : z.n = m + 1) (e : rdN xs z.a = some (gap, a1)) (e2 : rdN xs a1 = none) : ackRest xs z = none := by
  rw [ackRest]
  split
  · simp only [hn, rdR, e, e2]
  · rfl
theorem ack_none3 {xs : List UInt8} {z : AckSt} {m gap a1 size a2 : Nat} (hn : z.n = m + 1) (e : rdN xs z.a = some (gap, a1)) (e2 : rdN xs a1 = some (size, a2)) (h : z.hi - z.size < 2 ∨ z.hi - z.size - 2 < gap) : ackRest xs z = none := by
  rw [ackRest]
  split
  · simp only [hn, rdR, e, e2]
    rw [if_neg (by omega)]
  · rfl
theorem ack_step {xs : List UInt8} {z : AckSt} {m gap a1 size a2 : Nat} (hle : z.size ≤ z.hi) (hn : z.n = m + 1) (e : rdN xs z.a = some (gap, a1)) (e2 : rdN xs a1 = some (size, a2)) (h : 2 ≤ z.hi - z.size) (hg : gap ≤ z.hi - z.size - 2)
    (p : Option Addr) (b o c : Nat) (s : List Value) :
    ackRest xs z = ackRest xs ⟨z.rs ++ [(⟨z.hi - z.size, z.hi⟩ : Rng)], z.hi - z.size - 2 - gap, m, size, a2, p, b, o, c, s⟩ := by
  rw [ackRest, if_pos hle, ackRest]
  simp only [hn, rdR, e, e2]
  by_cases h2 : size ≤ z.hi - z.size - 2 - gap
  · rw [if_pos (by omega), if_pos h2]
    cases rdR xs m (z.hi - z.size - 2 - gap - size) a2 with
    | none => rfl
    | some w => obtain ⟨rs', a4⟩ := w; simp
  · rw [if_neg (by omega), if_neg h2]
theorem rdK_ack {xs : List UInt8} {fin : Bool} {a : Nat} {rs : List Rng} {a' : Nat} (h : rdA xs a = some (rs, a')) : rdK xs 3 fin a = some (⟨3, 0, 0, 0, fin, ⟨#[]⟩, rs⟩, a') := by
  unfold rdK; simp only [Nat.reduceEqDiff, if_false, if_true, h]
theorem rdK_ackN {xs : List UInt8} {fin : Bool} {a : Nat} (h : rdA xs a = none) : rdK xs 3 fin a = none := by
  unfold rdK; simp only [Nat.reduceEqDiff, if_false, if_true, h]

theorem readAck_x (rb fb : Nat) (fin : Bool) (p : Option Addr) (b o c : Nat) (xs : List UInt8) (a : Nat) (R : HP) (hs : Sl p b o xs.length c) (hr : RdA B R b o xs) (hx : xs.length < 100000000000) (ha : a ≤ xs.length) :
    FnX Tryd.prog B 74 [ptr rb 0, ptr fb 0] (rdr rb p c xs a * (HP.pts fb 0 (encRF (r0 3 fin)) * R)) (fun _ H' => ∃ r a', rdK xs 3 fin a = some (r.f, a') ∧ r.ok ∧ r.own ∧ H' = rdr rb p c xs a' * (HP.pts fb 0 (encRF r) * (OwnR r * R))) (fun ch H' => rdK xs 3 fin a = none ∧ ch = pnS ∧ H' = R) := by
  refine fn_introX Tryd.func74 rfl rfl rfl ?_
  refine w_seq ?_
  refine w_region rfl ?_
  refine l_val (v_move rfl) rfl ?_
  refine l_effX (x_call rfl (varint_x rb p b o c xs a _ hs inferInstance hx (by omega))) rfl ?_ ?_
  rotate_left
  · rintro _ _ ⟨e10, rfl, rfl⟩
    refine a_tpanic ?_
    exact a_panicXE R ⟨rdK_ackN (by simp only [rdA, e10]), rfl, rfl⟩
  rintro _ _ ⟨n10, a10, e10, rfl, rfl⟩
  have g10 := rdN_some e10
  refine l_val (v_move rfl) rfl ?_
  refine l_effX (x_call rfl (varint_x rb p b o c xs a10 _ hs inferInstance hx (by omega))) rfl ?_ ?_
  rotate_left
  · rintro _ _ ⟨e12, rfl, rfl⟩
    refine a_tpanic ?_
    exact a_panicXE R ⟨rdK_ackN (by simp only [rdA, e10, e12]), rfl, rfl⟩
  rintro _ _ ⟨n12, a12, e12, rfl, rfl⟩
  have g12 := rdN_some e12
  refine l_val (v_move rfl) rfl ?_
  refine l_effX (x_call rfl (varint_x rb p b o c xs a12 _ hs inferInstance hx (by omega))) rfl ?_ ?_
  rotate_left
  · rintro _ _ ⟨e14, rfl, rfl⟩
    refine a_tpanic ?_
    exact a_panicXE R ⟨rdK_ackN (by simp only [rdA, e10, e12, e14]), rfl, rfl⟩
  rintro _ _ ⟨n14, a14, e14, rfl, rfl⟩
  have g14 := rdN_some e14
  refine l_val (v_assign rfl) rfl ?_
  refine l_val (v_assign rfl) rfl ?_
  refine l_val (v_assign rfl) rfl ?_
  refine l_nil ?_
  refine a_normal ?_
  refine w_block ?_
  refine w_loop (α := AckSt) (fun z => [(0, ptr rb 0), (1, ptr fb 0), (4, uN z.hi), (5, uN z.n), (6, uN z.size)]) (fun z => rdr rb p c xs z.a * (HP.pts fb 0 (encRF (z.rf fin)) * (arr z.b z.o z.rs z.s * R)))
    (fun z => z.hi ≤ 4611686018427387903 ∧ z.n ≤ 4611686018427387903 ∧ z.size ≤ 4611686018427387903 ∧ z.a ≤ xs.length ∧ z.rs.length ≤ z.a ∧ Sl z.p z.b z.o z.rs.length z.c ∧ z.rs.length * 2 + z.s.length = z.c * 2 ∧ rdA xs a = ackRest xs z) (fun z => z.n)
    ⟨[], n10, n12, n14, a14, none, 0, 0, 0, []⟩ ⟨g10.1, g12.1, g14.1, g14.2.2, Nat.zero_le _, ⟨.inl rfl, Nat.le_refl _⟩, rfl, ack_begin e10 e12 e14⟩ (.cons rfl (.cons rfl (.cons rfl (.cons rfl (.cons rfl .nil))))) (by show _ = rdr rb p c xs a14 * (HP.pts fb 0 (encRF (r0 3 fin)) * (arr 0 0 ([] : List Rng) [] * R)); rw [arr_nil, HP.emp_mul]) ?_
  rintro z ⟨hhi, hn, hsz, hza, hzl, hzs, hzc, hinv⟩
  refine w_block ?_
  refine w_seq ?_
  refine w_seq ?_
  refine w_region rfl ?_
  refine l_val (v_move rfl) rfl ?_
  refine l_val (v_move rfl) rfl ?_
  refine l_val (v_gtr rfl rfl) rfl ?_
  refine l_nil ?_
  refine a_normal ?_
  refine w_condD rfl (fun hbad => ?_) (fun hle => ?_)
  · skip
    refine w_region rfl ?_
    refine l_val (v_move rfl) rfl ?_
    refine l_effX (x_call rfl (fail_x rb _)) rfl ?_ ?_
    rotate_left
    · rintro _ _ ⟨rfl, rfl⟩
      refine a_tpanic ?_
      refine a_bpanic ?_
      refine a_tpanic ?_
      refine a_bpanic ?_
      exact a_panicXE R ⟨rdK_ackN (by rw [hinv]; exact ack_bad (by omega)), rfl, rfl⟩
    exact fun _ _ h => h.elim
  · skip
    refine w_skip ?_
    refine a_normal ?_
    refine w_seq ?_
    refine w_region rfl ?_
    refine l_val (v_move rfl) rfl ?_
    refine l_val (v_move rfl) rfl ?_
    refine l_val (v_subU rfl rfl (by omega)) rfl ?_
    refine l_val (v_assign rfl) rfl ?_
    refine l_nil ?_
    refine a_normal ?_
    refine w_seq ?_
    refine w_region rfl ?_
    refine l_val (v_move rfl) rfl ?_
    refine l_val (v_move rfl) rfl ?_
    refine l_val (v_nilCheck rfl) rfl ?_
    refine l_val (v_fieldAddr rfl) rfl ?_
    refine l_val (v_load rfl trivial) rfl ?_
    refine l_val (v_move rfl) rfl ?_
    refine l_val (v_move rfl) rfl ?_
    refine l_val (v_mkS (cs := [uN (z.hi - z.size), uN z.hi]) rfl rfl rfl (by simp [Value.oneCell'])) rfl ?_
    refine l_eff (e_buildSlice (cs := [uN (z.hi - z.size), uN z.hi]) rfl (by first | kernel_rfl | simp [Instr.fill, Value.cells]) rfl rfl) rfl ?_
    rintro _ _ ⟨b31, rfl, rfl⟩
    refine l_heap (H' := arr z.b z.o z.rs z.s * (HP.pts b31 0 (flat [(⟨z.hi - z.size, z.hi⟩ : Rng)]) * (rdr rb p c xs z.a * (HP.pts fb 0 (encRF (z.rf fin)) * R)))) (by show HP.pts b31 0 (flat [(⟨z.hi - z.size, z.hi⟩ : Rng)]) * _ = _; ac_rfl) ?_
    refine l_eff (e_append (ys := [(⟨z.hi - z.size, z.hi⟩ : Rng)]) (bb := b31) (oo := 0) (cc := 1) rfl hzs hzc rfl ⟨.inr rfl, Nat.le_refl _⟩ inferInstance rfl (by simp only [List.length_singleton]; omega) (by omega)) rfl ?_
    rintro _ _ ⟨p32, b32, o32, c32, s32, rfl, hs32, hc32, rfl⟩
    refine l_val (v_nilCheck rfl) rfl ?_
    refine l_val (v_fieldAddr rfl) rfl ?_
    refine l_eff0 (e_store rfl rfl rfl (by first | trivial | omega)) ?_
    rintro _ _ ⟨rfl, rfl⟩
    refine l_nil ?_
    refine a_normal ?_
    refine w_seq ?_
    refine w_seq ?_
    refine w_heap (H' := rdr rb p c xs z.a * (HP.pts fb 0 (encRF (AckSt.rf ⟨z.rs ++ [(⟨z.hi - z.size, z.hi⟩ : Rng)], 0, 0, 0, 0, p32, b32, o32, c32, s32⟩ fin)) * (arr b32 o32 (z.rs ++ [(⟨z.hi - z.size, z.hi⟩ : Rng)]) s32 * (HP.pts b31 0 (flat [(⟨z.hi - z.size, z.hi⟩ : Rng)]) * R)))) (by show _ = _; ac_rfl) ?_
    refine w_region rfl ?_
    refine l_val (v_move rfl) rfl ?_
    refine l_val (v_eql (j := 0) rfl rfl) rfl ?_
    refine l_nil ?_
    refine a_normal ?_
    refine w_condD rfl (fun hz => ?_) (fun hz => ?_)
    · skip
      refine w_ret ?_
      refine a_tret ?_
      refine a_bret ?_
      refine a_tret ?_
      refine a_bret ?_
      exact a_retXD (ts := []) (rdr rb p c xs z.a * (HP.pts fb 0 (encRF (AckSt.rf ⟨z.rs ++ [(⟨z.hi - z.size, z.hi⟩ : Rng)], 0, 0, 0, 0, p32, b32, o32, c32, s32⟩ fin)) * (arr b32 o32 (z.rs ++ [(⟨z.hi - z.size, z.hi⟩ : Rng)]) s32 * R))) rfl rfl ⟨AckSt.rf ⟨z.rs ++ [(⟨z.hi - z.size, z.hi⟩ : Rng)], 0, 0, 0, 0, p32, b32, o32, c32, s32⟩ fin, z.a, rdK_ack (by rw [hinv]; exact ack_end (by omega) hz), hs32, hc32, rfl⟩
    · skip
      obtain ⟨m, hm⟩ : ∃ m, z.n = m + 1 := ⟨z.n - 1, by omega⟩
      refine w_skip ?_
      refine a_normal ?_
      refine w_seq ?_
      refine w_region rfl ?_
      refine l_val (v_move rfl) rfl ?_
      refine l_val (v_subU (j := 1) rfl rfl (by omega)) rfl ?_
      refine l_val (v_assign rfl) rfl ?_
      refine l_nil ?_
      refine a_normal ?_
      refine w_seq ?_
      refine w_region rfl ?_
      refine l_val (v_move rfl) rfl ?_
      refine l_effX (x_call rfl (varint_x rb p b o c xs z.a _ hs inferInstance hx (by omega))) rfl ?_ ?_
      rotate_left
      · rintro _ _ ⟨e40, rfl, rfl⟩
        refine a_tpanic ?_
        refine a_bpanic ?_
        refine a_tpanic ?_
        refine a_bpanic ?_
        exact a_panicXE R ⟨rdK_ackN (by rw [hinv]; exact ack_none1 hm e40), rfl, rfl⟩
      rintro _ _ ⟨n40, a40, e40, rfl, rfl⟩
      have g40 := rdN_some e40
      refine l_val (v_assign rfl) rfl ?_
      refine l_nil ?_
      refine a_normal ?_
      refine w_seq ?_
      refine w_region rfl ?_
      refine l_val (v_move rfl) rfl ?_
      refine l_effX (x_call rfl (varint_x rb p b o c xs a40 _ hs inferInstance hx (by omega))) rfl ?_ ?_
      rotate_left
      · rintro _ _ ⟨e42, rfl, rfl⟩
        refine a_tpanic ?_
        refine a_bpanic ?_
        refine a_tpanic ?_
        refine a_bpanic ?_
        exact a_panicXE R ⟨rdK_ackN (by rw [hinv]; exact ack_none2 hm e40 e42), rfl, rfl⟩
      rintro _ _ ⟨n42, a42, e42, rfl, rfl⟩
      have g42 := rdN_some e42
      refine l_val (v_assign rfl) rfl ?_
      refine l_nil ?_
      refine a_normal ?_
      refine w_seq ?_
      refine w_seq ?_
      refine w_region rfl ?_
      refine l_val (v_move rfl) rfl ?_
      refine l_val (v_lss (j := 2) rfl rfl) rfl ?_
      refine l_val (v_move rfl) rfl ?_
      refine l_case 45 rfl (fun hg1 => ?_) (fun hg1 => ?_)
      · skip
        refine l_gN rfl rfl rfl (decide_eq_true hg1) ?_
        refine l_gN rfl rfl rfl (decide_eq_true hg1) ?_
        refine l_gN rfl rfl rfl (decide_eq_true hg1) ?_
        refine l_gN rfl rfl rfl (decide_eq_true hg1) ?_
        refine l_val (v_pickY (decide_eq_true hg1) rfl rfl) rfl ?_
        refine l_nil ?_
        refine a_normal ?_
        refine w_condY rfl rfl ?_
        refine w_region rfl ?_
        refine l_val (v_move rfl) rfl ?_
        refine l_effX (x_call rfl (fail_x rb _)) rfl ?_ ?_
        rotate_left
        · rintro _ _ ⟨rfl, rfl⟩
          refine a_tpanic ?_
          refine a_bpanic ?_
          refine a_tpanic ?_
          refine a_bpanic ?_
          exact a_panicXE R ⟨rdK_ackN (by rw [hinv]; exact ack_none3 hm e40 e42 (by omega)), rfl, rfl⟩
        exact fun _ _ h => h.elim
      · skip
        refine l_gY rfl rfl rfl (decide_eq_false hg1) ?_
        refine l_val (v_move rfl) rfl ?_
        refine l_gY rfl rfl rfl (decide_eq_false hg1) ?_
        refine l_val (v_move rfl) rfl ?_
        refine l_gY rfl rfl rfl (decide_eq_false hg1) ?_
        refine l_val (v_subU (j := 2) rfl rfl (by omega)) rfl ?_
        refine l_gY rfl rfl rfl (decide_eq_false hg1) ?_
        refine l_val (v_gtr rfl rfl) rfl ?_
        refine l_val (v_pickN (decide_eq_false hg1) rfl rfl) rfl ?_
        refine l_nil ?_
        refine a_normal ?_
        refine w_condD rfl (fun hb5 => ?_) (fun hb5 => ?_)
        · skip
          refine w_region rfl ?_
          refine l_val (v_move rfl) rfl ?_
          refine l_effX (x_call rfl (fail_x rb _)) rfl ?_ ?_
          rotate_left
          · rintro _ _ ⟨rfl, rfl⟩
            refine a_tpanic ?_
            refine a_bpanic ?_
            refine a_tpanic ?_
            refine a_bpanic ?_
            exact a_panicXE R ⟨rdK_ackN (by rw [hinv]; exact ack_none3 hm e40 e42 (by omega)), rfl, rfl⟩
          exact fun _ _ h => h.elim
        · skip
          refine w_skip ?_
          refine a_normal ?_
          refine w_region rfl ?_
          refine l_val (v_move rfl) rfl ?_
          refine l_val (v_subU (j := 2) rfl rfl (by omega)) rfl ?_
          refine l_val (v_move rfl) rfl ?_
          refine l_val (v_subU rfl rfl (by omega)) rfl ?_
          refine l_val (v_assign rfl) rfl ?_
          refine l_nil ?_
          refine a_bnormal ?_
          refine a_ent (rdr rb p c xs a42 * (HP.pts fb 0 (encRF (AckSt.rf ⟨z.rs ++ [(⟨z.hi - z.size, z.hi⟩ : Rng)], z.hi - z.size - 2 - n40, m, n42, a42, p32, b32, o32, c32, s32⟩ fin)) * (arr b32 o32 (z.rs ++ [(⟨z.hi - z.size, z.hi⟩ : Rng)]) s32 * R))) ?_
          exact a_loop (⟨z.rs ++ [(⟨z.hi - z.size, z.hi⟩ : Rng)], z.hi - z.size - 2 - n40, m, n42, a42, p32, b32, o32, c32, s32⟩ : AckSt) ⟨by show z.hi - z.size - 2 - n40 ≤ _; omega, by show m ≤ _; omega, g42.1, g42.2.2, by show (z.rs ++ [_]).length ≤ a42; rw [List.length_append, List.length_singleton]; omega, hs32, hc32, by rw [hinv]; exact ack_step (by omega) hm e40 e42 (by omega) (by omega) _ _ _ _ _⟩ (by show m < z.n; omega) (.cons rfl (.cons rfl (.cons rfl (.cons (by rw [hm]; rfl) (.cons rfl .nil))))) rfl

/-- what a codec reads -/
theorem codec_read {k : Nat} {f1 f2 f3 : FuncId} {us1 us2 us3 : List Value} {C : HP} (h : CodecF k f1 us1 f2 us2 f3 us3 C) (rb fb : Nat) (fin : Bool) (p : Option Addr) (b o c : Nat) (xs : List UInt8) (a : Nat) (R : HP) (hs : Sl p b o xs.length c) (hr : RdA B R b o xs) (hx : xs.length < 100000000000) (ha : a ≤ xs.length) :
    CallOk Tryd.prog f2 ∧ FnX Tryd.prog B f2 ([ptr rb 0, ptr fb 0] ++ us2) (rdr rb p c xs a * (HP.pts fb 0 (encRF (r0 k fin)) * (C * R))) (fun _ H' => ∃ r a', rdK xs k fin a = some (r.f, a') ∧ r.ok ∧ r.own ∧ H' = rdr rb p c xs a' * (HP.pts fb 0 (encRF r) * (OwnR r * (C * R)))) (fun ch H' => rdK xs k fin a = none ∧ ch = pnS ∧ H' = C * R) := by
  generalize hk : (k : Int) = kk at h
  cases h with
  | pad bt => obtain rfl : k = 1 := by omega
              exact ⟨inferInstance, bare2_x1 rb fb fin p b o c xs a _ hs inferInstance hx ha⟩
  | ping bt => obtain rfl : k = 2 := by omega
               exact ⟨inferInstance, bare2_x2 rb fb fin p b o c xs a _ hs inferInstance hx ha⟩
  | ack => obtain rfl : k = 3 := by omega
           exact ⟨inferInstance, readAck_x rb fb fin p b o c xs a _ hs inferInstance hx ha⟩
  | reset => obtain rfl : k = 4 := by omega
             exact ⟨inferInstance, of2_x rb fb fin p b o c xs a _ hs inferInstance hx ha⟩
  | data => obtain rfl : k = 5 := by omega
            exact ⟨inferInstance, of4_x rb fb fin p b o c xs a _ hs inferInstance hx ha⟩
  | bye bt bq => obtain rfl : k = 6 := by omega
                 exact ⟨inferInstance, number2_x bq rb fb fin p b o c xs a _ hs inferInstance hx ha⟩
end Go.Proofs.YtgfdlpcdjklcoaaDoor
