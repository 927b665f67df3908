/- Contracts of package sealstreamref: Decode; no condition. -/
import Derived.Test.YtgfdlpcdjklcoaaDoorRefWire3
import Derived.Test.YtgfdlpcdjklcoaaDoorWire6
namespace Go.Proofs.YtgfdlpcdjklcoaaDoor
open Go Go.RowKit
set_option linter.unusedVariables false
set_option maxRecDepth 20000
variable {B : World}
theorem okown_snoc {rs : List RF} {r : RF} (h : ∀ r ∈ rs, r.ok ∧ r.own) (h1 : r.ok) (h2 : r.own) : ∀ r' ∈ rs ++ [r], r'.ok ∧ r'.own := by
  intro r' hr'
  rcases List.mem_append.1 hr' with h' | h'
  · exact h r' h'
  · rw [List.mem_singleton.1 h']; exact ⟨h1, h2⟩

theorem rdecode_spec (p : Option Addr) (b o c : Nat) (xs : List UInt8) (R : HP) (hs : Sl p b o xs.length c) (hr : RdA B R b o xs) (hx : xs.length < 10000000000) :
    Fn Tryd.prog B 16 [.slice p xs.length c] R (fun v H' => ∃ (q : Option Addr) (b' o' c' : Nat) (s' : List Value) (rs : List RF) (fs : List Frm) (k : Nat) (at_ : Value), v = .tuple #[.slice q fs.length c', .int .i64 k, at_] ∧ Sl q b' o' fs.length c' ∧ fs.length * 7 + s'.length = c' * 7 ∧ rs.map RF.f = fs ∧ (∀ r ∈ rs, r.ok ∧ r.own) ∧ H' = arr b' o' rs s' * (OwnRs rs * R) ∧ ((∃ e, decL xs = .error e ∧ fs = [] ∧ q = none ∧ c' = 0 ∧ k = 5 ∧ at_ = iN e) ∨ (decL xs = .ok fs ∧ k = 0 ∧ at_ = .int .i64 (-1)))) := by
  refine fn_intro Tryd.func16 rfl rfl rfl ?_
  refine w_seq ?_
  refine w_region rfl ?_
  refine l_val (v_assign rfl) rfl ?_
  refine l_val (v_assign (v := .int .i64 (0 : Nat)) rfl) rfl ?_
  refine l_val (v_assign (v := .int .i64 (0 : Nat)) rfl) rfl ?_
  refine l_nil ?_
  refine a_normal ?_
  refine w_seq ?_
  refine w_region rfl ?_
  refine l_val (v_move rfl) rfl ?_
  refine l_val (v_mkS (cs := [.slice p xs.length c, iN 0, .bool false]) rfl rfl rfl (by simp [Value.oneCell'])) rfl ?_
  refine l_eff (e_box (l := [.slice p xs.length c, iN 0, .bool false]) rfl rfl) rfl ?_
  rintro _ _ ⟨b11, rfl, rfl⟩
  refine l_val (v_assign rfl) rfl ?_
  refine l_nil ?_
  refine a_normal ?_
  refine w_seq ?_
  refine w_seq ?_
  refine w_region rfl ?_
  refine l_val (v_move rfl) rfl ?_
  refine l_val (v_lenS rfl) rfl ?_
  refine l_val (v_eql (j := 0) rfl rfl) rfl ?_
  refine l_nil ?_
  refine a_normal ?_
  refine w_condD rfl (fun h0 => ?_) (fun h0 => ?_)
  · skip
    refine w_seq ?_
    refine w_region rfl ?_
    refine l_val (v_assign rfl) rfl ?_
    refine l_val (v_assign (v := .int .i64 (5 : Nat)) rfl) rfl ?_
    refine l_val (v_assign (v := .int .i64 (0 : Nat)) rfl) rfl ?_
    refine l_nil ?_
    refine a_normal ?_
    refine w_ret ?_
    refine a_tret ?_
    exact a_retD (ts := [2, 3, 4]) R rfl rfl ⟨none, 0, 0, 0, [], [], [], 5, iN 0, rfl, ⟨.inl rfl, Nat.le_refl _⟩, rfl, rfl, (fun r h => by simp at h), (by rw [arr_nil, OwnRs_nil, HP.emp_mul, HP.emp_mul]), .inl ⟨_, (by rw [decL, if_pos (List.length_eq_zero_iff.1 h0)]), rfl, rfl, rfl, rfl, rfl⟩⟩
  · skip
    refine w_skip ?_
    refine a_normal ?_
    refine w_seq ?_
    refine w_region rfl ?_
    refine l_val (v_assign rfl) rfl ?_
    refine l_nil ?_
    refine a_normal ?_
    refine w_seq ?_
    refine w_block ?_
    refine w_loop (α := DecSt) (fun z => [(0, .slice p xs.length c), (5, ptr b11 0), (6, .slice z.p z.rs.length z.c)]) (fun z => rr b11 p c xs z.a false * (arr z.b z.o z.rs z.s * (OwnRs z.rs * R)))
      (fun z => z.a ≤ xs.length ∧ z.rs.length ≤ z.a ∧ Sl z.p z.b z.o z.rs.length z.c ∧ z.rs.length * 7 + z.s.length = z.c * 7 ∧ (∀ r ∈ z.rs, r.ok ∧ r.own) ∧ decL xs = decMore (z.rs.map (·.f)) (decFrom xs z.a)) (fun z => xs.length - z.a)
      ⟨0, 0, none, 0, 0, 0, [], []⟩ ⟨Nat.zero_le _, Nat.zero_le _, ⟨.inl rfl, Nat.le_refl _⟩, rfl, (fun r h => by simp at h), by rw [decL, if_neg (fun h => h0 (by rw [h]; rfl))]; exact (decMore_nil _).symm⟩ (.cons rfl (.cons rfl (.cons rfl .nil))) (by show _ = rr b11 p c xs 0 false * (arr 0 0 ([] : List RF) [] * (OwnRs [] * R)); rw [arr_nil, OwnRs_nil, HP.emp_mul, HP.emp_mul]) ?_
    rintro z ⟨hza, hzl, hzs, hzc, hzo, hdec⟩
    refine w_seq ?_
    refine w_seq ?_
    refine w_anyH 10 10 mixed rfl (by kernel_rfl) ?_
    refine s_take 0 rfl (by kernel_rfl) rfl (v_move rfl) ?_
    refine s_take 1 rfl (by kernel_rfl) rfl (v_nilCheck rfl) ?_
    refine s_take 2 rfl (by kernel_rfl) rfl (v_fieldAddr rfl) ?_
    refine s_take 3 rfl (by kernel_rfl) rfl (v_load rfl trivial) ?_
    refine s_take 4 rfl (by kernel_rfl) rfl (v_move rfl) ?_
    refine s_take 5 rfl (by kernel_rfl) rfl (v_nilCheck rfl) ?_
    refine s_take 6 rfl (by kernel_rfl) rfl (v_fieldAddr rfl) ?_
    refine s_take 7 rfl (by kernel_rfl) rfl (v_load rfl trivial) ?_
    refine s_take 8 rfl (by kernel_rfl) rfl (v_lenS rfl) ?_
    refine s_take 9 rfl (by kernel_rfl) rfl (v_lss rfl rfl) ?_
    refine s_done (by kernel_rfl) ?_
    refine a_normal ?_
    refine w_condD rfl (fun hlt => ?_) (fun hlt => ?_)
    · skip
      refine w_skip ?_
      refine a_normal ?_
      refine w_block ?_
      refine w_seq ?_
      refine w_region rfl ?_
      refine l_val (v_move rfl) rfl ?_
      refine l_val (v_nilCheck rfl) rfl ?_
      refine l_val (v_fieldAddr rfl) rfl ?_
      refine l_val (v_load rfl trivial) rfl ?_
      refine l_val (v_assign rfl) rfl ?_
      refine l_nil ?_
      refine a_normal ?_
      refine w_seq ?_
      refine w_region rfl ?_
      refine l_val (v_move rfl) rfl ?_
      refine l_eff (e_call rfl (rframe_spec b11 p b o c xs z.a _ hs inferInstance hx hlt)) rfl ?_
      rintro _ _ ⟨r, a30, bad30, rfl, hrok, hrown, hmod, ha30, rfl, hfr⟩
      refine l_eff (e_alloc (l := [.int .i64 0, .int .i64 0, .int .u64 0, .int .u64 0, .bool false, .string ⟨#[]⟩, .slice none 0 0]) rfl) rfl ?_
      rintro _ _ ⟨b8, rfl, rfl⟩
      refine l_eff0 (e_storeA (cs := encRF r) rfl rfl (by constructor <;> rfl) (Lay.one r)) ?_
      rintro _ _ ⟨rfl, rfl⟩
      refine l_nil ?_
      refine a_normal ?_
      refine w_seq ?_
      refine w_seq ?_
      refine w_region rfl ?_
      refine l_val (v_move rfl) rfl ?_
      refine l_val (v_nilCheck rfl) rfl ?_
      refine l_val (v_fieldAddr rfl) rfl ?_
      refine l_val (v_load rfl trivial) rfl ?_
      refine l_nil ?_
      refine a_normal ?_
      refine w_cond rfl (fun hb => ?_) (fun hb => ?_)
      · skip
        have hfn : rdF xs z.a = none := by
          rcases hfr with ⟨_, h⟩ | ⟨h, _⟩
          · rw [h] at hb; cases hb
          · exact h
        refine w_seq ?_
        refine w_region rfl ?_
        refine l_val (v_move rfl) rfl ?_
        refine l_val (v_assign rfl) rfl ?_
        refine l_val (v_assign (v := .int .i64 (5 : Nat)) rfl) rfl ?_
        refine l_val (v_assign rfl) rfl ?_
        refine l_nil ?_
        refine a_normal ?_
        refine w_ret ?_
        refine a_tret ?_
        refine a_bret ?_
        refine a_tret ?_
        refine a_bret ?_
        refine a_tret ?_
        exact a_retD (ts := [2, 3, 4]) R rfl rfl ⟨none, 0, 0, 0, [], [], [], 5, iN z.a, rfl, ⟨.inl rfl, Nat.le_refl _⟩, rfl, rfl, (fun r h => by simp at h), (by rw [arr_nil, OwnRs_nil, HP.emp_mul, HP.emp_mul]), .inl ⟨_, (by have hd := hdec; rw [decFrom_bad hlt hfn] at hd; exact hd), rfl, rfl, rfl, rfl, rfl⟩⟩
      · skip
        have hfs : rdF xs z.a = some (r.f, a30) := by
          rcases hfr with ⟨h, _⟩ | ⟨_, h⟩
          · exact h
          · rw [h] at hb; cases hb
        obtain rfl : bad30 = false := hb
        have hf3 := rdF_some hfs hlt
        refine w_skip ?_
        refine a_normal ?_
        refine w_region rfl ?_
        refine l_val (v_move rfl) rfl ?_
        refine l_val (v_loadA rfl rfl) rfl ?_
        refine l_eff (e_buildSlice (cs := encRF r) rfl (by first | kernel_rfl | simp [Instr.fill, Value.cells]) rfl rfl) rfl ?_
        rintro _ _ ⟨b38, rfl, rfl⟩
        refine l_heap (H' := arr z.b z.o z.rs z.s * (HP.pts b38 0 (flat [r]) * (HP.pts b8 0 (encRF r) * (OwnR r * (rr b11 p c xs a30 false * (OwnRs z.rs * R)))))) (by show HP.pts b38 0 (flat [r]) * _ = _; ac_rfl) ?_
        refine l_eff (e_append (ys := [r]) (bb := b38) (oo := 0) (cc := 1) rfl hzs hzc rfl ⟨.inr rfl, Nat.le_refl _⟩ inferInstance rfl (by simp only [List.length_singleton]; omega) (by omega)) rfl ?_
        rintro _ _ ⟨p39, b39, o39, c39, s39, rfl, hs39, hc39, rfl⟩
        refine l_heap (H' := rr b11 p c xs a30 false * (arr b39 o39 (z.rs ++ [r]) s39 * (OwnRs (z.rs ++ [r]) * R)) * (HP.pts b38 0 (flat [r]) * HP.pts b8 0 (encRF r))) (by rw [OwnRs_append, OwnRs_cons, OwnRs_nil, HP.mul_emp]; ac_rfl) ?_
        refine l_val (v_assign rfl) rfl ?_
        refine l_nil ?_
        refine a_bnormal ?_
        refine a_ent (rr b11 p c xs a30 false * (arr b39 o39 (z.rs ++ [r]) s39 * (OwnRs (z.rs ++ [r]) * R))) ?_
        exact a_loop (⟨a30, 0, p39, b39, o39, c39, s39, z.rs ++ [r]⟩ : DecSt) ⟨hf3.2.1, by show (z.rs ++ [r]).length ≤ a30; rw [List.length_append, List.length_singleton]; omega, hs39, hc39, okown_snoc hzo hrok hrown, by rw [hdec, decFrom_step hlt hfs]; show _ = decMore ((z.rs ++ [r]).map (·.f)) _; rw [List.map_append]; exact decMore_step _ _ _⟩ (by show xs.length - a30 < xs.length - z.a; omega) (.cons rfl (.cons rfl (.cons rfl .nil))) rfl
    · skip
      refine w_exit ?_
      refine a_texit ?_
      refine a_texit ?_
      refine a_bexit ?_
      refine a_normal ?_
      refine w_seq ?_
      refine w_region rfl ?_
      refine l_val (v_move rfl) rfl ?_
      refine l_val (v_assign rfl) rfl ?_
      refine l_val (v_assign (v := .int .i64 (0 : Nat)) rfl) rfl ?_
      refine l_val (v_assign rfl) rfl ?_
      refine l_nil ?_
      refine a_normal ?_
      refine w_ret ?_
      exact a_retD (ts := [2, 3, 4]) (arr z.b z.o z.rs z.s * (OwnRs z.rs * R)) rfl rfl ⟨z.p, z.b, z.o, z.c, z.s, z.rs, z.rs.map (·.f), 0, .int .i64 (-1), by rw [List.length_map]; rfl, by rw [List.length_map]; exact hzs, by rw [List.length_map]; exact hzc, rfl, hzo, rfl, .inr ⟨by have hd := hdec; rw [decFrom_end hlt] at hd; rw [hd]; show Except.ok (_ ++ []) = _; rw [List.append_nil], rfl, rfl⟩⟩
end Go.Proofs.YtgfdlpcdjklcoaaDoor
