/- Contracts of package wire: frames written; no condition. -/
import Derived.Test.YtgfdlpcdjklcoaaDoorWire2
namespace Go.Proofs.YtgfdlpcdjklcoaaDoor
open Go Go.RowKit
set_option linter.unusedVariables false
set_option maxRecDepth 20000
variable {B : World}
theorem of_ok (k : Int) (hk : kindOk k) (H : HP) : Fn Tryd.prog B 63 [.int .i64 k] H (fun v H' => ∃ bc f1 us1 f2 us2 f3 us3 C, CodecF k f1 us1 f2 us2 f3 us3 C ∧ v = ptr bc 0 ∧ H' = codecH bc f1 f2 f3 us1 us2 us3 * (C * H)) :=
  (of_spec k H).mono fun _ _ h => h.resolve_left fun h => h.1 hk
theorem of_bad (k : Int) (hk : ¬ kindOk k) (H : HP) : Fn Tryd.prog B 63 [.int .i64 k] H (fun v H' => v = .pointer none ∧ H' = H) :=
  (of_spec k H).mono fun _ _ h => (h.resolve_right fun ⟨_, _, _, _, _, _, _, _, h, _⟩ => hk h.kind).2
theorem encF_ne (f : Frm) : encF f ≠ [] := by
  unfold encF
  repeat' split
  all_goals first | exact fun h => by cases h | (unfold encA; simp) | simp
section
variable {P : Program} {n : Nat} {E : Env} {D : Dfr} {H : HP} {d : Option Tmp} {T T' ty : TypeId} {pos : String} {af : Array Edge} {g : Option (Nat × Bool)} {x y z : Operand}
theorem v_eqNil {p : Option Addr} {k c : Nat} (hx : ev E x = some (.slice p k c)) (hy : ev E y = some (.slice none 0 0)) :
    Val Tryd.prog B n ⟨d, .binOp .eql 26 x y 26, ty, pos, af, g⟩ E H (.bool p.isNone) := by
  cases p with
  | none => exact v_bin hx hy (fun w => by kernel_rfl) (fun w => by kernel_rfl)
  | some a => exact v_bin hx hy (fun w => by kernel_rfl) (fun w => by kernel_rfl)
end

theorem append_bad (r : RF) (p : Option Addr) (b o c : Nat) (xs : List UInt8) (s : List Value) (R : HP) (hm : Mod r) (hr : RdA B R r.b r.o r.f.ranges) (hs : Sl p b o xs.length c) (hc : xs.length * 1 + s.length = c * 1) (hx : xs.length < 100000000000) (hk : ¬ kindOk r.f.kind) :
    Fn Tryd.prog B 58 [.slice p xs.length c, .agg (encRF r).toArray] (arr b o xs s * R) (fun v H' => v = .slice none 0 0 ∧ H' = arr b o xs s * R) := by
  refine fn_intro Tryd.func58 rfl rfl rfl ?_
  refine w_seq ?_
  refine w_region rfl ?_
  refine l_eff (e_box (l := encRF r) rfl rfl) rfl ?_
  rintro _ _ ⟨b3, rfl, rfl⟩
  refine l_val (v_assign rfl) rfl ?_
  refine l_nil ?_
  refine a_normal ?_
  refine w_seq ?_
  refine w_region rfl ?_
  refine l_val (v_fieldAddr rfl) rfl ?_
  refine l_val (v_load rfl trivial) rfl ?_
  refine l_eff (e_call rfl (of_bad r.f.kind hk _)) rfl ?_
  rintro _ _ ⟨rfl, rfl⟩
  refine l_val (v_assign rfl) rfl ?_
  refine l_nil ?_
  refine a_normal ?_
  refine w_seq ?_
  refine w_seq ?_
  refine w_region rfl ?_
  refine l_val (v_move rfl) rfl ?_
  refine l_val (v_bin (r := .bool true) rfl rfl (fun w => by kernel_rfl) (fun w => by kernel_rfl)) rfl ?_
  refine l_val (v_move rfl) rfl ?_
  refine l_caseB 11 rfl (fun hg1 => ?_) (fun hg1 => ?_)
  · skip
    refine l_gN rfl rfl rfl hg1 ?_
    refine l_gN rfl rfl rfl hg1 ?_
    refine l_gN rfl rfl rfl hg1 ?_
    refine l_val (v_pickY hg1 rfl rfl) rfl ?_
    refine l_nil ?_
    refine a_normal ?_
    refine w_condY rfl rfl ?_
    refine w_seq ?_
    refine w_region rfl ?_
    refine l_val (v_assign rfl) rfl ?_
    refine l_nil ?_
    refine a_normal ?_
    refine w_ret ?_
    refine a_tret ?_
    exact a_retD (ts := [4]) (arr b o xs s * R) rfl rfl ⟨rfl, rfl⟩
  · skip
    cases hg1

theorem append_kind (r : RF) (p : Option Addr) (b o c : Nat) (xs : List UInt8) (s : List Value) (R : HP) (hm : Mod r) (hr : RdA B R r.b r.o r.f.ranges) (hs : Sl p b o xs.length c) (hc : xs.length * 1 + s.length = c * 1) (hx : xs.length < 100000000000) (hk : kindOk r.f.kind) :
    Fn Tryd.prog B 58 [.slice p xs.length c, .agg (encRF r).toArray] (arr b o xs s * R) (fun v H' => (okF r.f ∧ IsSl R (xs ++ encF r.f) v H') ∨ (¬ okF r.f ∧ v = .slice none 0 0 ∧ H' = arr b o xs s * R)) := by
  refine fn_intro Tryd.func58 rfl rfl rfl ?_
  refine w_seq ?_
  refine w_region rfl ?_
  refine l_eff (e_box (l := encRF r) rfl rfl) rfl ?_
  rintro _ _ ⟨b3, rfl, rfl⟩
  refine l_val (v_assign rfl) rfl ?_
  refine l_nil ?_
  refine a_normal ?_
  refine w_seq ?_
  refine w_region rfl ?_
  refine l_val (v_fieldAddr rfl) rfl ?_
  refine l_val (v_load rfl trivial) rfl ?_
  refine l_eff (e_call rfl (of_ok r.f.kind hk _)) rfl ?_
  rintro _ _ ⟨bc, f1, us1, f2, us2, f3, us3, C, hF, rfl, rfl⟩
  have hw := hF.toW (B := B)
  have hq1 := hw.call1
  refine l_val (v_assign rfl) rfl ?_
  refine l_nil ?_
  refine a_normal ?_
  refine w_seq ?_
  refine w_seq ?_
  refine w_region rfl ?_
  refine l_val (v_move rfl) rfl ?_
  refine l_val (v_bin (r := .bool false) rfl rfl (fun w => by kernel_rfl) (fun w => by kernel_rfl)) rfl ?_
  refine l_val (v_move rfl) rfl ?_
  refine l_caseB 11 rfl (fun hg1 => ?_) (fun hg1 => ?_)
  · skip
    cases hg1
  · skip
    refine l_gY rfl rfl rfl hg1 ?_
    refine l_val (v_move rfl) rfl ?_
    refine l_heap (H' := HP.pts b3 0 (encRF r) * (C * (codecH bc f1 f2 f3 us1 us2 us3 * (arr b o xs s * R)))) (by ac_rfl) ?_
    refine l_gY rfl rfl rfl hg1 ?_
    refine l_eff (e_call rfl (sound_spec r b3 bc f1 f2 f3 us1 us2 us3 C _ hF hw rfl hm inferInstance)) rfl ?_
    rintro _ _ ⟨rfl, rfl⟩
    refine l_gY rfl rfl rfl hg1 ?_
    refine l_val (v_notD rfl) rfl ?_
    refine l_val (v_pickN hg1 rfl rfl) rfl ?_
    refine l_nil ?_
    refine a_normal ?_
    refine w_condD rfl (fun hcc => ?_) (fun hcc => ?_)
    · skip
      refine w_seq ?_
      refine w_region rfl ?_
      refine l_val (v_assign rfl) rfl ?_
      refine l_nil ?_
      refine a_normal ?_
      refine w_ret ?_
      refine a_tret ?_
      first
      | exact a_retD (ts := [4]) (arr b o xs s * R) rfl rfl (.inr ⟨hcc, rfl, rfl⟩)
      | exact a_retD (ts := [4]) (arr b21 o21 (xs ++ encF r.f) s21 * R) rfl rfl (.inl ⟨hok, p21, b21, o21, c21, s21, rfl, hs21, hc21, rfl⟩)
    · skip
      have hok : okF r.f := Classical.not_not.1 hcc
      refine w_skip ?_
      refine a_normal ?_
      refine w_seq ?_
      refine w_region rfl ?_
      refine l_val (v_move rfl) rfl ?_
      refine l_val (v_nilCheck rfl) rfl ?_
      refine l_val (v_fieldAddr rfl) rfl ?_
      refine l_val (v_load rfl trivial) rfl ?_
      refine l_val (v_move rfl) rfl ?_
      refine l_heap (H' := arr b o xs s * (HP.pts b3 0 (encRF r) * (C * (codecH bc f1 f2 f3 us1 us2 us3 * R)))) (by ac_rfl) ?_
      refine l_eff (e_callV rfl rfl (hw.write r b3 p b o c xs s _ hm rfl hok inferInstance hs hc hx)) rfl ?_
      rintro _ _ ⟨p21, b21, o21, c21, s21, rfl, hs21, hc21, rfl⟩
      refine l_val (v_assign rfl) rfl ?_
      refine l_nil ?_
      refine a_normal ?_
      refine w_ret ?_
      first
      | exact a_retD (ts := [4]) (arr b o xs s * R) rfl rfl (.inr ⟨hcc, rfl, rfl⟩)
      | exact a_retD (ts := [4]) (arr b21 o21 (xs ++ encF r.f) s21 * R) rfl rfl (.inl ⟨hok, p21, b21, o21, c21, s21, rfl, hs21, hc21, rfl⟩)

theorem append_spec (r : RF) (p : Option Addr) (b o c : Nat) (xs : List UInt8) (s : List Value) (R : HP) (hm : Mod r) (hr : RdA B R r.b r.o r.f.ranges) (hs : Sl p b o xs.length c) (hc : xs.length * 1 + s.length = c * 1) (hx : xs.length < 100000000000) :
    Fn Tryd.prog B 58 [.slice p xs.length c, .agg (encRF r).toArray] (arr b o xs s * R) (fun v H' => (okF r.f ∧ IsSl R (xs ++ encF r.f) v H') ∨ (¬ okF r.f ∧ v = .slice none 0 0 ∧ H' = arr b o xs s * R)) := by
  by_cases hk : kindOk r.f.kind
  · exact append_kind r p b o c xs s R hm hr hs hc hx hk
  · exact (append_bad r p b o c xs s R hm hr hs hc hx hk).mono fun v H' h => .inr ⟨fun ho => hk ho.2.2.2.2.2, h⟩
theorem append_any (r : RF) (p : Option Addr) (b o c : Nat) (xs : List UInt8) (s : List Value) (R : HP) (hm : Mod r) (hr : RdA B R r.b r.o r.f.ranges) (hs : Sl p b o xs.length c) (hc : xs.length * 1 + s.length = c * 1) (hx : xs.length < 100000000000) :
    Fn Tryd.prog B 58 [.slice p xs.length c, .agg (encRF r).toArray] (arr b o xs s * R) (fun v H' => ∃ p' b' o' c' s' ys, v = .slice p' ys.length c' ∧ Sl p' b' o' ys.length c' ∧ ys.length * 1 + s'.length = c' * 1 ∧ H' = arr b' o' ys s' * R ∧
      ((okF r.f ∧ ys = xs ++ encF r.f ∧ p'.isNone = false) ∨ (¬ okF r.f ∧ p'.isNone = true))) := by
  refine (append_spec r p b o c xs s R hm hr hs hc hx).drop ?_
  rintro v H' (⟨hok, p', b', o', c', s', rfl, h1, h2, rfl⟩ | ⟨hok, rfl, rfl⟩)
  · refine ⟨_, ⟨p', b', o', c', s', _, rfl, h1, h2, rfl, .inl ⟨hok, rfl, ?_⟩⟩, fun _ h => h⟩
    have hne : 0 < (xs ++ encF r.f).length := by have := List.length_pos_iff.2 (encF_ne r.f); simp only [List.length_append]; omega
    rw [h1.1.resolve_left (by have := h1.2; omega)]; rfl
  · exact ⟨R, ⟨none, 0, 0, 0, [], [], rfl, ⟨.inl rfl, Nat.le_refl _⟩, rfl, by rw [arr_nil, HP.emp_mul], .inr ⟨hok, rfl⟩⟩, fun _ h => h.right⟩
theorem encAll_take (fs : List Frm) (i : Nat) (h : i < fs.length) : encAll (fs.take i) ++ encF (fs[i]) = encAll (fs.take (i + 1)) := by
  unfold encAll
  rw [List.take_succ_eq_append_getElem h, List.flatMap_append]
  simp
theorem encAll_le (fs : List Frm) (i : Nat) : (encAll (fs.take i)).length ≤ (encAll fs).length := by
  have h : encAll fs = encAll (fs.take i) ++ encAll (fs.drop i) := by unfold encAll; rw [← List.flatMap_append, List.take_append_drop]
  rw [h, List.length_append]; omega
theorem getD_in {α : Type} (xs : List α) (i : Nat) (d : α) (h : i < xs.length) : xs.getD i d = xs[i] := by simp [List.getD, h]

theorem encode_spec (fs : List Frm) (p : Option Addr) (c b o : Nat) (rs : List RF) (H : HP) (hfs : RdFs B H p c fs b o rs) (hmd : ∀ r ∈ rs, Mod r) (hn : fs.length < 100000000000) (hel : (encAll fs).length < 100000000000) :
    Fn Tryd.prog B 45 [.slice p fs.length c] H (fun v H' => match encL fs with
      | none => v = .tuple #[.slice none 0 0, .iface 31 (.int .i64 5)] ∧ H' = H
      | some ys => ∃ sv, v = .tuple #[sv, .nilIface] ∧ IsSl H ys sv H') := by
  refine fn_intro Tryd.func45 rfl rfl rfl ?_
  have hrl := hfs.len
  refine w_seq ?_
  refine w_region rfl ?_
  refine l_val (v_assign rfl) rfl ?_
  refine l_val (v_assign rfl) rfl ?_
  refine l_nil ?_
  refine a_normal ?_
  refine w_seq ?_
  refine w_seq ?_
  refine w_region rfl ?_
  refine l_val (v_move rfl) rfl ?_
  refine l_val (v_lenS rfl) rfl ?_
  refine l_val (v_eql (j := 0) rfl rfl) rfl ?_
  refine l_nil ?_
  refine a_normal ?_
  refine w_condD rfl (fun h0 => ?_) (fun h0 => ?_)
  · skip
    refine w_seq ?_
    refine w_region rfl ?_
    refine l_val (v_makeIface (by kernel_rfl) rfl) rfl ?_
    refine l_val (v_assign rfl) rfl ?_
    refine l_val (v_assign rfl) rfl ?_
    refine l_nil ?_
    refine a_normal ?_
    refine w_ret ?_
    refine a_tret ?_
    exact a_retD (ts := [2, 3]) H rfl rfl (by
        rw [encL, if_neg (fun h => h.1 (List.length_eq_zero_iff.1 h0))]; exact ⟨rfl, rfl⟩)
  · skip
    refine w_skip ?_
    refine a_normal ?_
    refine w_seq ?_
    refine w_region rfl ?_
    refine l_val (v_assign rfl) rfl ?_
    refine l_nil ?_
    refine a_normal ?_
    refine w_seq ?_
    refine w_seq ?_
    refine w_region rfl ?_
    refine l_val (v_move rfl) rfl ?_
    refine l_val (v_lenS rfl) rfl ?_
    refine l_val (v_move (v := .int .i64 (0 : Nat)) rfl) rfl ?_
    refine l_nil ?_
    refine a_normal ?_
    refine w_block ?_
    refine w_loop (α := Nat × Option Addr × Nat × Nat × Nat × List Value) (fun z => [(4, .slice z.2.1 (encAll (fs.take z.1)).length z.2.2.2.2.1), (11, .slice p fs.length c), (12, iN fs.length), (13, iN z.1)]) (fun z => arr z.2.2.1 z.2.2.2.1 (encAll (fs.take z.1)) z.2.2.2.2.2 * H)
      (fun z => z.1 ≤ fs.length ∧ (∀ j, j < z.1 → okF (rs.getD j Lay.dflt).f) ∧ Sl z.2.1 z.2.2.1 z.2.2.2.1 (encAll (fs.take z.1)).length z.2.2.2.2.1 ∧ (encAll (fs.take z.1)).length * 1 + z.2.2.2.2.2.length = z.2.2.2.2.1 * 1) (fun z => fs.length - z.1) (0, none, 0, 0, 0, []) ⟨Nat.zero_le _, fun j hj => absurd hj (Nat.not_lt_zero j), ⟨.inl rfl, Nat.le_refl _⟩, rfl⟩ (.cons rfl (.cons rfl (.cons rfl (.cons rfl .nil)))) (by show H = arr 0 0 ([] : List UInt8) [] * H; rw [arr_nil, HP.emp_mul]) ?_
    rintro ⟨i, q, qb, qo, qc, qs⟩ ⟨hi, hall, hqs, hqc⟩
    dsimp only at hi hall hqs hqc ⊢
    have hql := encAll_le fs i
    refine w_seq ?_
    refine w_region rfl ?_
    refine l_val (v_lss rfl rfl) rfl ?_
    refine l_nil ?_
    refine a_normal ?_
    refine w_seq ?_
    refine w_condD rfl (fun hlt => ?_) (fun hlt => ?_)
    · skip
      have hmem : rs.getD i Lay.dflt ∈ rs := by rw [getD_in _ _ _ (by omega)]; exact List.getElem_mem _
      have hri : (rs.getD i Lay.dflt).f = fs[i] := by
        have := hfs.map; subst this
        rw [getD_in _ _ _ (by omega), List.getElem_map]
      have hrr := hfs.rds _ hmem
      refine w_skip ?_
      refine a_normal ?_
      refine w_seq ?_
      refine w_block ?_
      refine w_seq ?_
      refine w_region rfl ?_
      refine l_val (v_indexAddrR (b := b) (o := o) rfl rfl hfs.sl hlt) rfl ?_
      refine l_val (v_loadE (i := i) (o := o) (xs := rs) rfl (let _ := hfs.rd; inferInstance) (by omega)) rfl ?_
      refine l_eff (e_alloc (l := [.int .i64 0, .int .i64 0, .int .u64 0, .int .u64 0, .bool false, .string ⟨#[]⟩, .slice none 0 0]) rfl) rfl ?_
      rintro _ _ ⟨b6, rfl, rfl⟩
      refine l_eff0 (e_storeA (cs := encRF (rs.getD i Lay.dflt)) rfl rfl (by constructor <;> rfl) (Lay.one (rs.getD i Lay.dflt))) ?_
      rintro _ _ ⟨rfl, rfl⟩
      refine l_nil ?_
      refine a_normal ?_
      refine w_seq ?_
      refine w_region rfl ?_
      refine l_val (v_move rfl) rfl ?_
      refine l_val (v_loadA rfl rfl) rfl ?_
      refine l_heap (H' := arr qb qo (encAll (fs.take i)) qs * (HP.pts b6 0 (encRF (rs.getD i Lay.dflt)) * H)) (HP.left_comm _ _ _) ?_
      refine l_eff (e_call rfl (append_any (rs.getD i Lay.dflt) q qb qo qc (encAll (fs.take i)) qs _ (hmd _ hmem) inferInstance hqs hqc (by omega))) rfl ?_
      rintro _ _ ⟨p', b', o', c', s', ys, rfl, hs', hc', rfl, hcase⟩
      refine l_val (v_assign rfl) rfl ?_
      refine l_nil ?_
      refine a_normal ?_
      refine w_seq ?_
      refine w_region rfl ?_
      refine l_val (v_move rfl) rfl ?_
      refine l_val (v_eqNil rfl rfl) rfl ?_
      refine l_nil ?_
      refine a_normal ?_
      refine w_cond rfl (fun hpn => ?_) (fun hpn => ?_)
      · skip
        have hbad : ¬ okF (rs.getD i Lay.dflt).f := by
          rcases hcase with h | h
          · rw [h.2.2] at hpn; cases hpn
          · exact h.1
        refine w_seq ?_
        refine w_region rfl ?_
        refine l_val (v_makeIface (by kernel_rfl) rfl) rfl ?_
        refine l_val (v_assign rfl) rfl ?_
        refine l_val (v_assign rfl) rfl ?_
        refine l_nil ?_
        refine a_normal ?_
        refine w_ret ?_
        refine a_bret ?_
        refine a_tret ?_
        refine a_tret ?_
        refine a_bret ?_
        refine a_tret ?_
        exact a_retD (ts := [2, 3]) H rfl rfl (by
            rw [encL, if_neg (fun h => hbad (by rw [hri]; exact h.2 _ (List.getElem_mem _)))]; exact ⟨rfl, rfl⟩)
      · skip
        obtain ⟨hok, rfl, _⟩ : okF (rs.getD i Lay.dflt).f ∧ ys = encAll (fs.take i) ++ encF (rs.getD i Lay.dflt).f ∧ p'.isNone = false := by
          rcases hcase with h | h
          · exact h
          · rw [h.2] at hpn; cases hpn
        rw [hri, encAll_take fs i hlt] at hs' hc' ⊢
        refine w_skip ?_
        refine a_bnormal ?_
        refine a_normal ?_
        refine w_region rfl ?_
        refine l_val (v_addI (j := 1) rfl rfl (by omega)) rfl ?_
        refine l_val (v_move rfl) rfl ?_
        refine l_nil ?_
        refine a_ent (arr b' o' (encAll (fs.take (i + 1))) s' * H) (a_loop (i + 1, p', b', o', c', s') ⟨by omega, fun j hj => ?_, hs', hc'⟩ (by show fs.length - (i + 1) < fs.length - i; omega) (.cons rfl (.cons rfl (.cons rfl (.cons rfl .nil)))) rfl)
        rcases Nat.lt_succ_iff_lt_or_eq.1 hj with h | rfl
        · exact hall j h
        · exact hok
    · skip
      refine w_exit ?_
      refine a_texit ?_
      refine a_texit ?_
      refine a_bexit ?_
      refine a_normal ?_
      refine w_seq ?_
      refine w_region rfl ?_
      refine l_val (v_move rfl) rfl ?_
      refine l_val (v_assign rfl) rfl ?_
      refine l_val (v_assign rfl) rfl ?_
      refine l_nil ?_
      refine a_normal ?_
      refine w_ret ?_
      exact a_retD (ts := [2, 3]) (arr qb qo (encAll (fs.take i)) qs * H) rfl rfl (by
          obtain rfl : i = fs.length := by omega
          rw [List.take_length] at hqs hqc ⊢
          have hgood : fs ≠ [] ∧ ∀ f ∈ fs, okF f := ⟨fun h => h0 (by rw [h]; rfl), fun f hf => by
            have hm2 := hfs.map
            subst hm2
            obtain ⟨r, hr, rfl⟩ := List.mem_map.1 hf
            obtain ⟨j, hj, rfl⟩ := List.getElem_of_mem hr
            have := hall j (by omega)
            rwa [getD_in _ _ _ hj] at this⟩
          rw [encL, if_pos hgood]
          exact ⟨_, rfl, q, qb, qo, qc, qs, rfl, hqs, hqc, rfl⟩)
end Go.Proofs.YtgfdlpcdjklcoaaDoor
