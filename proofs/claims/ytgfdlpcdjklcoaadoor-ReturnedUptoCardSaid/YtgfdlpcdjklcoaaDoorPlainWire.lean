/- Contracts of package plain: frames as bytes and back; no condition. -/
import Derived.Test.YtgfdlpcdjklcoaaDoorWire6
import Derived.Test.YtgfdlpcdjklcoaaDoorArr
namespace Go.Proofs.YtgfdlpcdjklcoaaDoor
open Go Go.RowKit
set_option linter.unusedVariables false
set_option maxRecDepth 20000
variable {B : World}
/-- an error's number -/
def NumOf (B : World) (ev : Value) (k : Nat) : Prop := ∀ H, Fn Tryd.prog B 29 [ev] H (fun v H' => v = .int .i64 k ∧ H' = H)
/-- an error's number and place, and what it takes in memory -/
def TellOf (B : World) (ev : Value) (k : Nat) (at_ : Value) (X : HP) : Prop := ∀ R, Fn Tryd.prog B 34 [ev] (X * R) (fun v H' => v = .tuple #[.int .i64 k, at_] ∧ H' = X * R)
theorem encL_ne {fs : List Frm} {ys : List UInt8} (h : encL fs = some ys) : ys ≠ [] ∧ ys = encAll fs := by
  unfold encL at h
  split at h
  · rename_i hc
    obtain rfl := Option.some.inj h
    refine ⟨fun he => ?_, rfl⟩
    cases fs with
    | nil => exact hc.1 rfl
    | cons f fs => 
      unfold encAll at he
      rw [List.flatMap_cons] at he
      exact encF_ne f (List.append_eq_nil_iff.1 he).1
  · cases h

theorem encode_none (fs : List Frm) (p : Option Addr) (c b o : Nat) (rs : List RF) (H : HP) (hfs : RdFs B H p c fs b o rs) (hmd : ∀ r ∈ rs, Mod r) (hn : fs.length < 100000000000) (hel : (encAll fs).length < 100000000000) (hop : encL fs = none) :
    Fn Tryd.prog B 45 [.slice p fs.length c] H (fun v H' => v = .tuple #[.slice none 0 0, eno 5] ∧ H' = H) := by
  have h := encode_spec fs p c b o rs H hfs hmd hn hel
  rw [hop] at h; exact h
theorem encode_some (fs : List Frm) (p : Option Addr) (c b o : Nat) (rs : List RF) (H : HP) (hfs : RdFs B H p c fs b o rs) (hmd : ∀ r ∈ rs, Mod r) (hn : fs.length < 100000000000) (hel : (encAll fs).length < 100000000000) (ys : List UInt8) (hop : encL fs = some ys) :
    Fn Tryd.prog B 45 [.slice p fs.length c] H (fun v H' => ∃ sv, v = .tuple #[sv, .nilIface] ∧ IsSl H ys sv H') := by
  have h := encode_spec fs p c b o rs H hfs hmd hn hel
  rw [hop] at h; exact h

theorem tencode_none (hG : B.cell? ⟨0, 0, none⟩ = some (rty 55)) (fs : List Frm) (p : Option Addr) (c b o : Nat) (rs : List RF) (H : HP) (hfs : RdFs B H p c fs b o rs) (hmd : ∀ r ∈ rs, Mod r) (hn : fs.length < 10000000000) (hel : (encAll fs).length < 100000000000) (hop : encL fs = none) :
    Fn Tryd.prog B 30 [.slice p fs.length c] H (fun v H' => v = .tuple #[.slice none 0 0, eno 5] ∧ H' = H) := by
  refine fn_intro Tryd.func30 rfl rfl rfl ?_
  refine w_seq ?_
  refine w_region rfl ?_
  refine l_val (v_assign rfl) rfl ?_
  refine l_val (v_assign rfl) rfl ?_
  refine l_nil ?_
  refine a_normal ?_
  refine w_seq ?_
  refine w_region rfl ?_
  refine l_val (v_move rfl) rfl ?_
  refine l_eff (e_call rfl (encode_none fs p c b o rs H hfs hmd (by omega) hel hop)) rfl ?_
  rintro _ _ ⟨rfl, rfl⟩
  refine l_val (v_extract rfl rfl) rfl ?_
  refine l_val (v_extract rfl rfl) rfl ?_
  refine l_val (v_assign rfl) rfl ?_
  refine l_val (v_assign rfl) rfl ?_
  refine l_nil ?_
  refine a_normal ?_
  refine w_ret ?_
  exact a_ret (ts := [2, 3]) rfl rfl ⟨rfl, rfl⟩

theorem tencode_some (fs : List Frm) (p : Option Addr) (c b o : Nat) (rs : List RF) (H : HP) (hfs : RdFs B H p c fs b o rs) (hmd : ∀ r ∈ rs, Mod r) (hn : fs.length < 10000000000) (hel : (encAll fs).length < 100000000000) (ys : List UInt8) (hop : encL fs = some ys) :
    Fn Tryd.prog B 30 [.slice p fs.length c] H (fun v H' => ∃ sv, v = .tuple #[sv, .nilIface] ∧ IsSl H ys sv H') := by
  refine fn_intro Tryd.func30 rfl rfl rfl ?_
  refine w_seq ?_
  refine w_region rfl ?_
  refine l_val (v_assign rfl) rfl ?_
  refine l_val (v_assign rfl) rfl ?_
  refine l_nil ?_
  refine a_normal ?_
  refine w_seq ?_
  refine w_region rfl ?_
  refine l_val (v_move rfl) rfl ?_
  refine l_eff (e_call rfl (encode_some fs p c b o rs H hfs hmd (by omega) hel ys hop)) rfl ?_
  rintro _ _ ⟨sv, rfl, hsv⟩
  refine l_val (v_extract rfl rfl) rfl ?_
  refine l_val (v_extract rfl rfl) rfl ?_
  refine l_val (v_assign rfl) rfl ?_
  refine l_val (v_assign rfl) rfl ?_
  refine l_nil ?_
  refine a_normal ?_
  refine w_ret ?_
  exact a_ret (ts := [2, 3]) rfl rfl ⟨sv, rfl, hsv⟩

theorem tencode_any (hG : B.cell? ⟨0, 0, none⟩ = some (rty 55)) (fs : List Frm) (p : Option Addr) (c b o : Nat) (rs : List RF) (H : HP) (hfs : RdFs B H p c fs b o rs) (hmd : ∀ r ∈ rs, Mod r) (hn : fs.length < 10000000000) (hel : (encAll fs).length < 100000000000) :
    Fn Tryd.prog B 30 [.slice p fs.length c] H (fun v H' => ∃ (q : Option Addr) (b' o' c' : Nat) (s' : List Value) (ys : List UInt8) (ev : Value) (k : Nat), v = .tuple #[.slice q ys.length c', ev] ∧ Sl q b' o' ys.length c' ∧ ys.length * 1 + s'.length = c' * 1 ∧ H' = arr b' o' ys s' * H ∧ NumOf B ev k ∧ ((encL fs = none ∧ ys = [] ∧ q = none ∧ c' = 0 ∧ k = 5) ∨ (encL fs = some ys ∧ ys ≠ [] ∧ k = 0))) := by
  cases hop : encL fs with
  | none =>
    refine (tencode_none hG fs p c b o rs H hfs hmd hn hel hop).mono ?_
    rintro v H' ⟨rfl, rfl⟩
    exact ⟨none, 0, 0, 0, [], [], eno 5, 5, rfl, ⟨.inl rfl, Nat.le_refl _⟩, rfl, by rw [arr_nil, HP.emp_mul], fun H => number_errno hG 5 H, .inl ⟨rfl, rfl, rfl, rfl, rfl⟩⟩
  | some ys =>
    refine (tencode_some fs p c b o rs H hfs hmd hn hel ys hop).mono ?_
    rintro v H' ⟨sv, rfl, q, b', o', c', s', rfl, h1, h2, rfl⟩
    exact ⟨q, b', o', c', s', ys, .nilIface, 0, rfl, h1, h2, rfl, fun H => number_nil H, .inr ⟨rfl, (encL_ne hop).1, rfl⟩⟩

theorem flat_single (r : RF) : flat [r] = encRF r := List.append_nil _
theorem Mod.mk' {f : Frm} {p : Option Addr} {b o c : Nat} {s : List Value} (h1 : Sl p b o f.ranges.length c) (h2 : f.ranges.length < 10000000000) (h3 : f.data.size < 100000000000) : Mod ⟨f, p, b, o, c, s⟩ := ⟨h1, h2, h3⟩

theorem pencode_spec (hG : B.cell? ⟨0, 0, none⟩ = some (rty 55)) (fs : List Frm) (p : Option Addr) (c b o : Nat) (rs : List RF) (H : HP) (hfs : RdFs B H p c fs b o rs) (hmd : ∀ r ∈ rs, Mod r) (hn : fs.length < 10000000000) (hel : (encAll fs).length < 100000000000) :
    Fn Tryd.prog B 13 [.slice p fs.length c] H (fun v H' => ∃ (q : Option Addr) (b' o' c' : Nat) (s' : List Value) (ys : List UInt8) (k : Nat), v = .tuple #[.slice q ys.length c', .int .i64 k] ∧ Sl q b' o' ys.length c' ∧ ys.length * 1 + s'.length = c' * 1 ∧ H' = arr b' o' ys s' * H ∧ ((encL fs = none ∧ ys = [] ∧ q = none ∧ c' = 0 ∧ k = 5) ∨ (encL fs = some ys ∧ ys ≠ [] ∧ k = 0))) := by
  refine fn_intro Tryd.func13 rfl rfl rfl ?_
  have hrl := hfs.len
  refine w_seq ?_
  refine w_region rfl ?_
  refine l_val (v_assign rfl) rfl ?_
  refine l_val (v_assign (v := .int .i64 (0 : Nat)) rfl) rfl ?_
  refine l_nil ?_
  refine a_normal ?_
  refine w_seq ?_
  refine w_region rfl ?_
  refine l_val (v_assign rfl) rfl ?_
  refine l_nil ?_
  refine a_normal ?_
  refine w_seq ?_
  refine w_seq ?_
  refine w_region rfl ?_
  refine l_val (v_move rfl) rfl ?_
  refine l_val (v_lenS rfl) rfl ?_
  refine l_val (v_move (v := .int .i64 (0 : Nat)) rfl) rfl ?_
  refine l_nil ?_
  refine a_normal ?_
  refine w_block ?_
  refine w_loop (α := Nat × Option Addr × Nat × Nat × Nat × List Value × List RF) (fun z => [(4, .slice z.2.1 z.2.2.2.2.2.2.length z.2.2.2.2.1), (11, .slice p fs.length c), (12, iN fs.length), (13, iN z.1)]) (fun z => arr z.2.2.1 z.2.2.2.1 z.2.2.2.2.2.2 z.2.2.2.2.2.1 * (OwnRs z.2.2.2.2.2.2 * H))
    (fun z => z.1 ≤ fs.length ∧ z.2.2.2.2.2.2.map (·.f) = fs.take z.1 ∧ Sl z.2.1 z.2.2.1 z.2.2.2.1 z.2.2.2.2.2.2.length z.2.2.2.2.1 ∧ z.2.2.2.2.2.2.length * 7 + z.2.2.2.2.2.1.length = z.2.2.2.2.1 * 7 ∧ (∀ r ∈ z.2.2.2.2.2.2, r.ok ∧ r.own ∧ Mod r)) (fun z => fs.length - z.1) (0, none, 0, 0, 0, [], []) ⟨Nat.zero_le _, rfl, ⟨.inl rfl, Nat.le_refl _⟩, rfl, fun r h => by simp at h⟩ (.cons rfl (.cons rfl (.cons rfl (.cons rfl .nil)))) (by show H = arr 0 0 ([] : List RF) [] * (OwnRs [] * H); rw [arr_nil, OwnRs_nil, HP.emp_mul, HP.emp_mul]) ?_
  rintro ⟨i, q, qb, qo, qc, qs, ts⟩ ⟨hi, hmap, hqs, hqc, hall⟩
  dsimp only at hi hmap hqs hqc hall ⊢
  have hlen : ts.length = i := by have := congrArg List.length hmap; rw [List.length_map, List.length_take] at this; omega
  refine w_seq ?_
  refine w_region rfl ?_
  refine l_val (v_lss rfl rfl) rfl ?_
  refine l_nil ?_
  refine a_normal ?_
  refine w_seq ?_
  refine w_condD rfl (fun hlt => ?_) (fun hlt => ?_)
  · skip
    have hmem : (rs.getD i Lay.dflt) ∈ rs := by rw [getD_in _ _ _ (by omega)]; exact List.getElem_mem _
    have hri : (rs.getD i Lay.dflt).f = fs[i] := by
      have := hfs.map; subst this
      rw [getD_in _ _ _ (by omega), List.getElem_map]
    have hrr := hfs.rds _ hmem
    refine w_skip ?_
    refine a_normal ?_
    refine w_seq ?_
    refine w_block ?_
    refine w_seq ?_
    refine w_region rfl ?_
    refine l_val (v_indexAddrR (b := b) (o := o) rfl rfl hfs.sl hlt) rfl ?_
    refine l_val (v_loadE (i := i) (o := o) (xs := rs) rfl (let _ := hfs.rd; inferInstance) (by omega)) rfl ?_
    refine l_eff (e_alloc (l := [.int .i64 0, .int .i64 0, .int .u64 0, .int .u64 0, .bool false, .string ⟨#[]⟩, .slice none 0 0]) rfl) rfl ?_
    rintro _ _ ⟨b6, rfl, rfl⟩
    refine l_eff0 (e_storeA (cs := encRF (rs.getD i Lay.dflt)) rfl rfl (by constructor <;> rfl) (Lay.one (rs.getD i Lay.dflt))) ?_
    rintro _ _ ⟨rfl, rfl⟩
    refine l_nil ?_
    refine a_normal ?_
    refine w_seq ?_
    refine w_region rfl ?_
    refine l_val (v_fieldAddr rfl) rfl ?_
    refine l_val (v_load rfl trivial) rfl ?_
    refine l_heap (H' := arr 0 0 ([] : List Rng) [] * (HP.pts b6 0 (encRF (rs.getD i Lay.dflt)) * (arr qb qo ts qs * (OwnRs ts * H)))) (by rw [arr_nil, HP.emp_mul]) ?_
    refine l_eff (e_append (α := Rng) (p := none) (c := 0) (ys := (rs.getD i Lay.dflt).f.ranges) (bb := (rs.getD i Lay.dflt).b) (oo := (rs.getD i Lay.dflt).o) rfl ⟨.inl rfl, Nat.le_refl _⟩ rfl rfl (hfs.ok _ hmem) inferInstance rfl (by have := (hmd _ hmem).len; simp only [List.length_nil]; omega) (by omega)) rfl ?_
    rintro _ _ ⟨p19, b19, o19, c19, s19, rfl, hs19, hc19, rfl⟩
    rw [List.nil_append] at hs19 hc19 ⊢
    obtain ⟨r', hrf, hre, hro, hrk⟩ : ∃ r' : RF, r'.f = (rs.getD i Lay.dflt).f ∧ encRF r' = [.int .i64 (rs.getD i Lay.dflt).f.kind, .int .i64 (rs.getD i Lay.dflt).f.stream, uN (rs.getD i Lay.dflt).f.offset, uN (rs.getD i Lay.dflt).f.code, .bool (rs.getD i Lay.dflt).f.fin, .string (rs.getD i Lay.dflt).f.data, .slice p19 (rs.getD i Lay.dflt).f.ranges.length c19] ∧ OwnR r' = arr b19 o19 (rs.getD i Lay.dflt).f.ranges s19 ∧ (r'.ok ∧ r'.own ∧ Mod r') := ⟨⟨(rs.getD i Lay.dflt).f, p19, b19, o19, c19, s19⟩, rfl, rfl, rfl, hs19, hc19, Mod.mk' hs19 (hmd _ hmem).len (hmd _ hmem).size⟩
    refine l_val (v_fieldAddr rfl) rfl ?_
    refine l_eff0 (e_store rfl rfl rfl (by first | trivial | omega)) ?_
    rintro _ _ ⟨rfl, rfl⟩
    refine l_nil ?_
    refine a_normal ?_
    refine w_region rfl ?_
    refine l_val (v_move rfl) rfl ?_
    refine l_val (v_loadA rfl rfl) rfl ?_
    refine l_eff (e_buildSlice (cs := encRF r') rfl (by rw [hre]; first | kernel_rfl | simp [Instr.fill, Value.cells]) rfl rfl) rfl ?_
    rintro _ _ ⟨b23, rfl, rfl⟩
    refine l_heap (H' := arr qb qo ts qs * (HP.pts b23 0 (flat [r']) * (OwnRs (ts ++ [r']) * H)) * HP.pts b6 0 (encRF r')) (by rw [flat_single, hre, OwnRs_append, OwnRs_cons, OwnRs_nil, HP.mul_emp, hro]; ac_rfl) ?_
    refine l_ent (arr qb qo ts qs * (HP.pts b23 0 (flat [r']) * (OwnRs (ts ++ [r']) * H))) ?_
    refine l_eff (e_append (ys := [r']) (bb := b23) (oo := 0) (cc := 1) rfl hqs hqc rfl ⟨.inr rfl, Nat.le_refl _⟩ inferInstance rfl (by simp only [List.length_singleton]; omega) (by omega)) rfl ?_
    rintro _ _ ⟨p24, b24, o24, c24, s24, rfl, hs24, hc24, rfl⟩
    refine l_val (v_assign rfl) rfl ?_
    refine l_nil ?_
    refine a_bnormal ?_
    refine a_normal ?_
    refine w_region rfl ?_
    refine l_val (v_addI (j := 1) rfl rfl (by omega)) rfl ?_
    refine l_val (v_move rfl) rfl ?_
    refine l_nil ?_
    refine a_ent (arr b24 o24 (ts ++ [r']) s24 * (OwnRs (ts ++ [r']) * H)) (a_loop (i + 1, p24, b24, o24, c24, s24, ts ++ [r']) ⟨by omega, ?_, hs24, hc24, ?_⟩ (by show fs.length - (i + 1) < fs.length - i; omega) (.cons rfl (.cons rfl (.cons rfl (.cons rfl .nil)))) rfl)
    · rw [List.map_append, hmap, List.take_succ_eq_append_getElem hlt]
      show _ ++ [r'.f] = _
      rw [hrf, hri]
    · intro r hr
      rcases List.mem_append.1 hr with h | h
      · exact hall r h
      · rw [List.mem_singleton.1 h]; exact hrk
  · skip
    refine w_exit ?_
    refine a_texit ?_
    refine a_texit ?_
    refine a_bexit ?_
    refine a_normal ?_
    refine w_seq ?_
    obtain rfl : i = fs.length := by omega
    rw [List.take_length] at hmap
    refine w_region rfl ?_
    refine l_val (v_move rfl) rfl ?_
    refine l_eff (e_call (vs := [.slice q fs.length qc]) (by rw [← hlen]; rfl) (tencode_any hG fs q qc qb qo ts _ (IsFs.rd (hlen ▸ hqs) hmap (fun r h => ⟨(hall r h).1, (hall r h).2.1⟩)) (fun r h => (hall r h).2.2) hn hel)) rfl ?_
    rintro _ _ ⟨p28, b28, o28, c28, s28, ys, ev, k, rfl, hs28, hc28, rfl, hnum, hres⟩
    refine l_val (v_move rfl) rfl ?_
    refine l_val (v_extract rfl rfl) rfl ?_
    refine l_val (v_extract rfl rfl) rfl ?_
    refine l_val (v_assign rfl) rfl ?_
    refine l_val (v_assign rfl) rfl ?_
    refine l_nil ?_
    refine a_normal ?_
    refine w_seq ?_
    refine w_seq ?_
    refine w_region rfl ?_
    refine l_val (v_move rfl) rfl ?_
    refine l_val (v_lenS rfl) rfl ?_
    refine l_val (v_move (v := .int .i64 (0 : Nat)) rfl) rfl ?_
    refine l_nil ?_
    refine a_normal ?_
    refine w_block ?_
    refine w_heap (H' := arr qb qo ts qs * (OwnRs (ts.drop 0) * (arr b28 o28 ys s28 * H))) (by rw [List.drop_zero]; ac_rfl) ?_
    refine w_loop (α := Nat × List RF) (fun z => [(4, .slice q ts.length qc), (7, .slice p28 ys.length c28), (8, ev), (32, iN ts.length), (33, iN z.1)]) (fun z => arr qb qo z.2 qs * (OwnRs (ts.drop z.1) * (arr b28 o28 ys s28 * H)))
      (fun z => z.1 ≤ ts.length ∧ z.2.length = ts.length ∧ ∀ j, z.1 ≤ j → z.2.getD j Lay.dflt = ts.getD j Lay.dflt) (fun z => ts.length - z.1) (0, ts) ⟨Nat.zero_le _, rfl, fun _ _ => rfl⟩ (.cons rfl (.cons rfl (.cons rfl (.cons rfl (.cons rfl .nil))))) rfl ?_
    rintro ⟨i, us⟩ ⟨hi2, hul, hus⟩
    dsimp only at hi2 hul hus ⊢
    refine w_seq ?_
    refine w_region rfl ?_
    refine l_val (v_lss rfl rfl) rfl ?_
    refine l_nil ?_
    refine a_normal ?_
    refine w_seq ?_
    refine w_condD rfl (fun hl2 => ?_) (fun hl2 => ?_)
    · skip
      have hui := hus i (Nat.le_refl _)
      have hti : ts.drop i = ts.getD i Lay.dflt :: ts.drop (i + 1) := by rw [List.drop_eq_getElem_cons hl2, getD_in _ _ _ hl2]
      have htm : ts.getD i Lay.dflt ∈ ts := by rw [getD_in _ _ _ hl2]; exact List.getElem_mem _
      generalize hti2 : ts.getD i Lay.dflt = ti at *
      have hto := (hall ti htm).1
      have htmod := (hall ti htm).2.2
      refine w_skip ?_
      refine a_normal ?_
      refine w_seq ?_
      refine w_block ?_
      refine w_seq ?_
      refine w_region rfl ?_
      refine l_val (v_move rfl) rfl ?_
      refine l_val (v_assign rfl) rfl ?_
      refine l_nil ?_
      refine a_normal ?_
      refine w_seq ?_
      refine w_seq ?_
      refine w_region rfl ?_
      refine l_val (v_move rfl) rfl ?_
      refine l_val (v_move rfl) rfl ?_
      refine l_val (v_indexAddrR (b := qb) (o := qo) rfl rfl hqs hl2) rfl ?_
      refine l_val (v_fieldAddr rfl) rfl ?_
      refine l_val (v_loadF (i := i) (f := 6) (xs := us) (v := .slice ti.p ti.f.ranges.length ti.c) rfl inferInstance (by rw [hui]; rfl) (by omega)) rfl ?_
      refine l_val (v_lenS rfl) rfl ?_
      refine l_val (v_move (v := .int .i64 (0 : Nat)) rfl) rfl ?_
      refine l_nil ?_
      refine a_normal ?_
      refine w_block ?_
      refine w_heap (H' := arr ti.b ti.o ti.f.ranges ti.s * (arr qb qo us qs * (OwnRs (ts.drop (i + 1)) * (arr b28 o28 ys s28 * H)))) (by rw [hti, OwnRs_cons, OwnR]; ac_rfl) ?_
      refine w_loop (α := Nat × List Rng) (fun z => [(4, .slice q ts.length qc), (7, .slice p28 ys.length c28), (8, ev), (9, iN i), (32, iN ts.length), (33, iN i), (41, iN ti.f.ranges.length), (42, iN z.1)]) (fun z => arr ti.b ti.o z.2 ti.s * (arr qb qo us qs * (OwnRs (ts.drop (i + 1)) * (arr b28 o28 ys s28 * H))))
        (fun z => z.1 ≤ ti.f.ranges.length ∧ z.2.length = ti.f.ranges.length) (fun z => ti.f.ranges.length - z.1) (0, ti.f.ranges) ⟨Nat.zero_le _, rfl⟩ (.cons rfl (.cons rfl (.cons rfl (.cons rfl (.cons rfl (.cons rfl (.cons rfl (.cons rfl .nil)))))))) rfl ?_
      rintro ⟨j, rr⟩ ⟨hj, hrr2⟩
      dsimp only at hj hrr2 ⊢
      refine w_seq ?_
      refine w_region rfl ?_
      refine l_val (v_lss rfl rfl) rfl ?_
      refine l_nil ?_
      refine a_normal ?_
      refine w_seq ?_
      refine w_condD rfl (fun hl4 => ?_) (fun hl4 => ?_)
      · skip
        have htl := htmod.len
        refine w_skip ?_
        refine a_normal ?_
        refine w_seq ?_
        refine w_block ?_
        refine w_seq ?_
        refine w_region rfl ?_
        refine l_val (v_move rfl) rfl ?_
        refine l_val (v_assign rfl) rfl ?_
        refine l_nil ?_
        refine a_normal ?_
        refine w_region rfl ?_
        refine l_val (v_move rfl) rfl ?_
        refine l_val (v_move rfl) rfl ?_
        refine l_val (v_indexAddrR (b := qb) (o := qo) rfl rfl hqs hl2) rfl ?_
        refine l_val (v_fieldAddr rfl) rfl ?_
        refine l_val (v_loadF (i := i) (f := 6) (xs := us) (v := .slice ti.p ti.f.ranges.length ti.c) rfl inferInstance (by rw [hui]; rfl) (by omega)) rfl ?_
        refine l_val (v_move rfl) rfl ?_
        refine l_val (v_mkS (cs := Lay.enc (⟨7, 7⟩ : Rng)) rfl rfl rfl (Lay.one (⟨7, 7⟩ : Rng))) rfl ?_
        refine l_val (v_indexAddrR (b := ti.b) (o := ti.o) rfl rfl hto hl4) rfl ?_
        refine l_eff0 (e_storeArr (k := j) (⟨7, 7⟩ : Rng) rfl rfl (by omega)) ?_
        rintro _ _ ⟨rfl, rfl⟩
        refine l_nil ?_
        refine a_bnormal ?_
        refine a_normal ?_
        refine w_region rfl ?_
        refine l_val (v_addI (j := 1) rfl rfl (by omega)) rfl ?_
        refine l_val (v_move rfl) rfl ?_
        refine l_nil ?_
        exact a_loop (j + 1, rr.set j ⟨7, 7⟩) ⟨hl4, by rw [List.length_set]; exact hrr2⟩ (by show ti.f.ranges.length - (j + 1) < ti.f.ranges.length - j; omega) (.cons rfl (.cons rfl (.cons rfl (.cons rfl (.cons rfl (.cons rfl (.cons rfl (.cons rfl .nil)))))))) rfl
      · skip
        refine w_exit ?_
        refine a_texit ?_
        refine a_texit ?_
        refine a_bexit ?_
        refine a_normal ?_
        refine w_heap (H' := arr qb qo us qs * (arr ti.b ti.o rr ti.s * (OwnRs (ts.drop (i + 1)) * (arr b28 o28 ys s28 * H)))) (HP.left_comm _ _ _) ?_
        refine w_region rfl ?_
        refine l_val (v_move rfl) rfl ?_
        refine l_val (v_move rfl) rfl ?_
        refine l_val (v_mkS (cs := encRF (r0 2 false)) rfl rfl rfl (Lay.one (r0 2 false))) rfl ?_
        refine l_val (v_indexAddrR (b := qb) (o := qo) rfl rfl hqs hl2) rfl ?_
        refine l_eff0 (e_storeArr (k := i) (r0 2 false) rfl rfl (by omega)) ?_
        rintro _ _ ⟨rfl, rfl⟩
        refine l_nil ?_
        refine a_bnormal ?_
        refine a_normal ?_
        refine w_region rfl ?_
        refine l_val (v_addI (j := 1) rfl rfl (by omega)) rfl ?_
        refine l_val (v_move rfl) rfl ?_
        refine l_nil ?_
        refine a_ent (arr qb qo (us.set i (r0 2 false)) qs * (OwnRs (ts.drop (i + 1)) * (arr b28 o28 ys s28 * H))) (a_loop (i + 1, us.set i (r0 2 false)) ⟨hl2, by rw [List.length_set]; exact hul, fun j hj => ?_⟩ (by show ts.length - (i + 1) < ts.length - i; omega) (.cons rfl (.cons rfl (.cons rfl (.cons rfl (.cons rfl .nil))))) rfl)
        rw [← hus j (by omega)]
        simp only [List.getD, List.getElem?_set]
        rw [if_neg (by omega)]
    · skip
      refine w_exit ?_
      refine a_texit ?_
      refine a_texit ?_
      refine a_bexit ?_
      refine a_normal ?_
      refine w_seq ?_
      refine w_region rfl ?_
      refine l_val (v_move rfl) rfl ?_
      refine l_val (v_move rfl) rfl ?_
      refine l_eff (e_call rfl (hnum _)) rfl ?_
      rintro _ _ ⟨rfl, rfl⟩
      refine l_val (v_assign rfl) rfl ?_
      refine l_val (v_assign rfl) rfl ?_
      refine l_nil ?_
      refine a_normal ?_
      refine w_ret ?_
      exact a_retD (ts := [2, 3]) (arr b28 o28 ys s28 * H) rfl rfl ⟨p28, b28, o28, c28, s28, ys, k, rfl, hs28, hc28, rfl, hres⟩

theorem decode_any (hG : B.cell? ⟨0, 0, none⟩ = some (rty 55)) (p : Option Addr) (b o c : Nat) (xs : List UInt8) (R : HP) (hs : Sl p b o xs.length c) (hr : RdA B R b o xs) (hx : xs.length < 10000000000) :
    Fn Tryd.prog B 47 [.slice p xs.length c] R (fun v H' => ∃ (q : Option Addr) (b' o' c' : Nat) (s' : List Value) (rs : List RF) (fs : List Frm) (ev : Value) (k : Nat) (at_ : Value) (X : HP), v = .tuple #[.slice q fs.length c', ev] ∧ Sl q b' o' fs.length c' ∧ fs.length * 7 + s'.length = c' * 7 ∧ rs.map RF.f = fs ∧ (∀ r ∈ rs, r.ok ∧ r.own) ∧ H' = X * (arr b' o' rs s' * (OwnRs rs * R)) ∧ TellOf B ev k at_ X ∧ ((∃ e, decL xs = .error e ∧ fs = [] ∧ q = none ∧ c' = 0 ∧ k = 5 ∧ at_ = iN e) ∨ (decL xs = .ok fs ∧ k = 0 ∧ at_ = .int .i64 (-1)))) := by
  refine (decode_spec p b o c xs R hs hr hx).mono ?_
  cases hop : decL xs with
  | error e =>
    rintro v H' ⟨q, rfl, rfl⟩
    exact ⟨none, 0, 0, 0, [], [], [], flt q, 5, iN e, fltH q 5 (iN e), rfl, ⟨.inl rfl, Nat.le_refl _⟩, rfl, rfl, (fun r h => by simp at h), by rw [arr_nil, OwnRs_nil, HP.emp_mul, HP.emp_mul], fun R => told_fault hG q 5 (iN e) R, .inl ⟨e, rfl, rfl, rfl, rfl, rfl, rfl⟩⟩
  | ok fs =>
    rintro v H' ⟨sv, rfl, q, b', o', c', s', rs, rfl, h1, h2, h3, h4, rfl⟩
    exact ⟨q, b', o', c', s', rs, fs, .nilIface, 0, .int .i64 (-1), HP.emp, rfl, h1, h2, h3, h4, (HP.emp_mul _).symm, fun R => by rw [HP.emp_mul]; exact told_nil R, .inr ⟨rfl, rfl, rfl⟩⟩

theorem tdecode_any (hG : B.cell? ⟨0, 0, none⟩ = some (rty 55)) (p : Option Addr) (b o c : Nat) (xs : List UInt8) (R : HP) (hs : Sl p b o xs.length c) (hr : RdA B R b o xs) (hx : xs.length < 10000000000) :
    Fn Tryd.prog B 33 [.slice p xs.length c] R (fun v H' => ∃ (q : Option Addr) (b' o' c' : Nat) (s' : List Value) (rs : List RF) (fs : List Frm) (ev : Value) (k : Nat) (at_ : Value) (X : HP), v = .tuple #[.slice q fs.length c', ev] ∧ Sl q b' o' fs.length c' ∧ fs.length * 7 + s'.length = c' * 7 ∧ rs.map RF.f = fs ∧ (∀ r ∈ rs, r.ok ∧ r.own) ∧ H' = X * (arr b' o' rs s' * (OwnRs rs * R)) ∧ TellOf B ev k at_ X ∧ ((∃ e, decL xs = .error e ∧ fs = [] ∧ q = none ∧ c' = 0 ∧ k = 5 ∧ at_ = iN e) ∨ (decL xs = .ok fs ∧ k = 0 ∧ at_ = .int .i64 (-1)))) := by
  refine fn_intro Tryd.func33 rfl rfl rfl ?_
  refine w_seq ?_
  refine w_region rfl ?_
  refine l_val (v_assign rfl) rfl ?_
  refine l_val (v_assign rfl) rfl ?_
  refine l_nil ?_
  refine a_normal ?_
  refine w_seq ?_
  refine w_region rfl ?_
  refine l_val (v_move rfl) rfl ?_
  refine l_eff (e_call rfl (decode_any hG p b o c xs R hs hr hx)) rfl ?_
  rintro _ _ ⟨q, b', o', c', s', rs, fs, ev, k, at_, X, rfl, h1, h2, h3, h4, rfl, htell, hres⟩
  refine l_val (v_extract rfl rfl) rfl ?_
  refine l_val (v_extract rfl rfl) rfl ?_
  refine l_val (v_assign rfl) rfl ?_
  refine l_val (v_assign rfl) rfl ?_
  refine l_nil ?_
  refine a_normal ?_
  refine w_ret ?_
  exact a_ret (ts := [2, 3]) rfl rfl ⟨q, b', o', c', s', rs, fs, ev, k, at_, X, rfl, h1, h2, h3, h4, rfl, htell, hres⟩

theorem pdecode_spec (hG : B.cell? ⟨0, 0, none⟩ = some (rty 55)) (p : Option Addr) (b o c : Nat) (xs : List UInt8) (R : HP) (hs : Sl p b o xs.length c) (hr : RdA B R b o xs) (hx : xs.length < 1000000000) :
    Fn Tryd.prog B 15 [.slice p xs.length c] R (fun v H' => ∃ (q : Option Addr) (b' o' c' : Nat) (s' : List Value) (rs : List RF) (fs : List Frm) (k : Nat) (at_ : Value), v = .tuple #[.slice q fs.length c', .int .i64 k, at_] ∧ Sl q b' o' fs.length c' ∧ fs.length * 7 + s'.length = c' * 7 ∧ rs.map RF.f = fs ∧ (∀ r ∈ rs, r.ok ∧ r.own) ∧ H' = (arr b' o' rs s' * (OwnRs rs * R)) ∧ ((∃ e, decL xs = .error e ∧ fs = [] ∧ q = none ∧ c' = 0 ∧ k = 5 ∧ at_ = iN e) ∨ (decL xs = .ok fs ∧ k = 0 ∧ at_ = .int .i64 (-1)))) := by
  refine fn_intro Tryd.func15 rfl rfl rfl ?_
  refine w_seq ?_
  refine w_region rfl ?_
  refine l_val (v_assign rfl) rfl ?_
  refine l_val (v_assign (v := .int .i64 (0 : Nat)) rfl) rfl ?_
  refine l_val (v_assign (v := .int .i64 (0 : Nat)) rfl) rfl ?_
  refine l_nil ?_
  refine a_normal ?_
  refine w_seq ?_
  refine w_region rfl ?_
  refine l_val (v_move rfl) rfl ?_
  refine l_heap (H' := arr 0 0 ([] : List UInt8) [] * R) (by rw [arr_nil, HP.emp_mul]) ?_
  refine l_eff (e_append (p := none) (c := 0) (ys := xs) (bb := b) (oo := o) rfl ⟨.inl rfl, Nat.le_refl _⟩ rfl rfl hs inferInstance rfl (by simp; omega) (by omega)) rfl ?_
  rintro _ _ ⟨p11, b11, o11, c11, s11, rfl, hs11, hc11, rfl⟩
  rw [List.nil_append] at hs11 hc11 ⊢
  refine l_val (v_assign rfl) rfl ?_
  refine l_nil ?_
  refine a_normal ?_
  refine w_seq ?_
  refine w_region rfl ?_
  refine l_val (v_move rfl) rfl ?_
  refine l_eff (e_call rfl (tdecode_any hG p11 b11 o11 c11 xs _ hs11 inferInstance (by omega))) rfl ?_
  rintro _ _ ⟨q, b', o', c', s', rs, fs, ev, k, at_, X, rfl, h1, h2, h3, h4, rfl, htell, hres⟩
  refine l_val (v_move rfl) rfl ?_
  refine l_val (v_extract rfl rfl) rfl ?_
  refine l_val (v_extract rfl rfl) rfl ?_
  refine l_val (v_assign rfl) rfl ?_
  refine l_val (v_assign rfl) rfl ?_
  refine l_nil ?_
  refine a_normal ?_
  refine w_seq ?_
  refine w_region rfl ?_
  refine l_val (v_move rfl) rfl ?_
  refine l_heap (H' := arr b11 o11 xs s11 * (X * (arr b' o' rs s' * (OwnRs rs * R)))) (by ac_rfl) ?_
  refine l_eff (e_call rfl (scribble_spec p11 b11 o11 c11 xs.length xs s11 _ hs11 rfl (by omega))) rfl ?_
  rintro _ _ ⟨zs, hzs, rfl⟩
  refine l_nil ?_
  refine a_normal ?_
  refine w_seq ?_
  refine w_region rfl ?_
  refine l_val (v_move rfl) rfl ?_
  refine l_heap (HP.left_comm _ _ _) ?_
  refine l_eff (e_call rfl (htell _)) rfl ?_
  rintro _ _ ⟨rfl, rfl⟩
  refine l_val (v_move rfl) rfl ?_
  refine l_val (v_extract rfl rfl) rfl ?_
  refine l_val (v_extract rfl rfl) rfl ?_
  refine l_val (v_assign rfl) rfl ?_
  refine l_val (v_assign rfl) rfl ?_
  refine l_nil ?_
  refine a_normal ?_
  refine w_seq ?_
  refine w_region rfl ?_
  refine l_val (v_move rfl) rfl ?_
  refine l_val (v_move rfl) rfl ?_
  refine l_val (v_move rfl) rfl ?_
  refine l_val (v_assign rfl) rfl ?_
  refine l_val (v_assign rfl) rfl ?_
  refine l_val (v_assign rfl) rfl ?_
  refine l_nil ?_
  refine a_normal ?_
  refine w_ret ?_
  exact a_retD (ts := [2, 3, 4]) (arr b' o' rs s' * (OwnRs rs * R)) rfl rfl ⟨q, b', o', c', s', rs, fs, k, at_, rfl, h1, h2, h3, h4, rfl, hres⟩
end Go.Proofs.YtgfdlpcdjklcoaaDoor
