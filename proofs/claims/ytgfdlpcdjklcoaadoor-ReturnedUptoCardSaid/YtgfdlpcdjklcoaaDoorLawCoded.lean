/- The law Coded: every call answers as the document's; no condition. -/
import Derived.Test.YtgfdlpcdjklcoaaDoorPlainWire
import Derived.Test.YtgfdlpcdjklcoaaDoorRefWire4
import Derived.Laws.StructEq
namespace Go.Proofs.YtgfdlpcdjklcoaaDoor
open Go Go.RowKit
set_option linter.unusedVariables false
set_option maxRecDepth 20000
variable {B : World}
abbrev F0 : Frm := ⟨0, 0, 0, 0, false, ⟨#[]⟩, []⟩
section
variable {n : Nat} {E : Env} {H : HP} {d : Option Tmp} {T' ty : TypeId} {pos : String} {af : Array Edge} {g : Option (Nat × Bool)} {x y : Operand}
theorem part_u64 (l h : Nat) (w : World) : (part 24 #[uN l, uN h] 0).run Tryd.prog w = .ok (uN l) w ∧ (part 24 #[uN l, uN h] 1).run Tryd.prog w = .ok (uN h) w := by
  constructor <;> kernel_rfl
theorem v_neRg {l h : Nat} (hx : ev E x = some (.agg #[uN l, uN h])) (hy : ev E y = some (.agg #[uN l, uN h])) :
    Val Tryd.prog B n ⟨d, .binOp .neq 62 x y T', ty, pos, af, g⟩ E H (.bool false) := by
  refine v_bin hx hy (fun w => run_eqGuard_agg w _ _ _ _ _ _ (by kernel_rfl)) (fun w => ?_)
  have hu := Tryd.underlying62
  rw [run_neq_struct, run_equalIn_struct (d := 9999) w _ _ _ (by rw [hu]; unfold Program.fieldsOf; rw [hu]) (by kernel_rfl)]
  unfold Program.fieldsOf
  rw [hu]
  have h1 := fun w => run_equalIn_int (P := Tryd.prog) w 9998 24 .u64 .u64 l l Tryd.underlying24
  have h2 := fun w => run_equalIn_int (P := Tryd.prog) w 9998 24 .u64 .u64 h h Tryd.underlying24
  have p1 := fun w => (part_u64 l h w).1
  have p2 := fun w => (part_u64 l h w).2
  simp [Op.eqFields, p1, p2, h1, h2]
theorem v_loadEe {P : Program} {T : TypeId} {α : Type} [Lay α] {b o i : Nat} {xs : List α} (a : α) (he : xs.getD i Lay.dflt = a) [hT : AggC P T (Lay.sz α)] (hx : ev E x = some (.pointer (some ⟨b, o + i * Lay.sz α, none⟩))) (hr : RdA B H b o xs) (hi : i < xs.length) :
    Val P B n ⟨d, .load T x, ty, pos, af, g⟩ E H (.agg (Lay.enc a).toArray) := he ▸ v_loadE hx hr hi
end
theorem frm_at {H : HP} {p : Option Addr} {c : Nat} {fs : List Frm} {b o : Nat} {rs : List RF} (h : RdFs B H p c fs b o rs) {i : Nat} (hi : i < fs.length) :
    ∃ q b' o' c' s', rs.getD i Lay.dflt = ⟨fs.getD i F0, q, b', o', c', s'⟩ ∧ Sl q b' o' (fs.getD i F0).ranges.length c' ∧ RdA B H b' o' (fs.getD i F0).ranges := by
  have hrl := h.len
  have hmem : rs.getD i Lay.dflt ∈ rs := by rw [getD_in _ _ _ (by omega)]; exact List.getElem_mem _
  have hri : (rs.getD i Lay.dflt).f = fs.getD i F0 := by
    have := h.map; subst this
    rw [getD_in _ _ _ (by omega), getD_in _ _ _ (by simpa using hi), List.getElem_map]
  have h1 := h.ok _ hmem
  have h2 := h.rds _ hmem
  generalize rs.getD i Lay.dflt = r at *
  obtain ⟨f, q, b', o', c', s'⟩ := r
  obtain rfl : f = _ := hri
  exact ⟨q, b', o', c', s', rfl, h1, h2⟩
theorem decFrom_sizes {xs : List UInt8} : ∀ (k a : Nat) (fs : List Frm), xs.length - a ≤ k → decFrom xs a = .ok fs → fs.length ≤ xs.length - a ∧ ∀ f ∈ fs, f.ranges.length ≤ xs.length ∧ f.data.size ≤ xs.length := by
  intro k
  induction k with
  | zero =>
    intro a fs hk h
    rw [decFrom_end (by omega)] at h
    cases h
    exact ⟨Nat.zero_le _, fun f hf => by simp at hf⟩
  | succ k ih =>
    intro a fs hk h
    by_cases hlt : a < xs.length
    · cases hr : rdF xs a with
      | none => rw [decFrom_bad hlt hr] at h; cases h
      | some z =>
        obtain ⟨f, a'⟩ := z
        have h3 := rdF_some hr hlt
        rw [decFrom_step hlt hr] at h
        cases hd : decFrom xs a' with
        | error e => rw [hd] at h; cases h
        | ok gs =>
          rw [hd] at h
          cases h
          have hi := ih a' gs (by omega) hd
          refine ⟨by rw [List.length_cons]; omega, fun g hg => ?_⟩
          rcases List.mem_cons.1 hg with rfl | hg
          · unfold rdF at hr
            split at hr
            · split at hr
              · cases hr; exact rdK_size (by assumption)
              · cases hr
            · cases hr
          · exact hi.2 g hg
    · rw [decFrom_end hlt] at h
      cases h
      exact ⟨Nat.zero_le _, fun f hf => by simp at hf⟩
theorem decL_sizes {xs : List UInt8} {fs : List Frm} (h : decL xs = .ok fs) : fs.length ≤ xs.length ∧ ∀ f ∈ fs, f.ranges.length ≤ xs.length ∧ f.data.size ≤ xs.length := by
  unfold decL at h
  split at h
  · cases h
  · exact decFrom_sizes xs.length 0 fs (by omega) h

theorem sameRanges_spec (rs : List Rng) (p : Option Addr) (b o c : Nat) (q : Option Addr) (b2 o2 k : Nat) (H : HP) (hs : Sl p b o rs.length c) (hr : RdA B H b o rs) (hs2 : Sl q b2 o2 rs.length k) (hr2 : RdA B H b2 o2 rs) (hn : rs.length < 1000000000000) :
    Fn Tryd.prog B 36 [.slice p rs.length c, .slice q rs.length k] H (fun v H' => v = .bool true ∧ H' = H) := by
  refine fn_intro Tryd.func36 rfl rfl rfl ?_
  refine w_seq ?_
  refine w_region rfl ?_
  refine l_val (v_assign rfl) rfl ?_
  refine l_nil ?_
  refine a_normal ?_
  refine w_seq ?_
  refine w_seq ?_
  refine w_region rfl ?_
  refine l_val (v_move rfl) rfl ?_
  refine l_val (v_lenS rfl) rfl ?_
  refine l_val (v_move rfl) rfl ?_
  refine l_val (v_lenS rfl) rfl ?_
  refine l_val (v_neq rfl rfl) rfl ?_
  refine l_nil ?_
  refine a_normal ?_
  refine w_condN rfl (decide_eq_false (fun h => h rfl)) ?_
  refine w_skip ?_
  refine a_normal ?_
  refine w_seq ?_
  refine w_seq ?_
  refine w_region rfl ?_
  refine l_val (v_assign (v := .int .i64 (0 : Nat)) rfl) rfl ?_
  refine l_nil ?_
  refine a_normal ?_
  refine w_block ?_
  refine w_loop (fun j : Nat => [(0, .slice p rs.length c), (1, .slice q rs.length k), (5, iN j)]) (fun _ => H) (fun j => j ≤ rs.length) (fun j => rs.length - j) 0 (Nat.zero_le _) (.cons rfl (.cons rfl (.cons rfl .nil))) rfl ?_
  rintro j hj
  dsimp only at hj ⊢
  refine w_seq ?_
  refine w_seq ?_
  refine w_region rfl ?_
  refine l_val (v_move rfl) rfl ?_
  refine l_val (v_move rfl) rfl ?_
  refine l_val (v_lenS rfl) rfl ?_
  refine l_val (v_lss rfl rfl) rfl ?_
  refine l_nil ?_
  refine a_normal ?_
  refine w_condD rfl (fun hc => ?_) (fun hc => ?_)
  · skip
    refine w_skip ?_
    refine a_normal ?_
    refine w_seq ?_
    refine w_block ?_
    refine w_seq ?_
    refine w_anyH 9 9 mixed rfl (by kernel_rfl) ?_
    refine s_take 0 rfl (by kernel_rfl) rfl (v_move rfl) ?_
    refine s_take 1 rfl (by kernel_rfl) rfl (v_move rfl) ?_
    refine s_take 2 rfl (by kernel_rfl) rfl (v_indexAddrR (b := b) (o := o) rfl rfl hs hc) ?_
    refine s_take 3 rfl (by kernel_rfl) rfl (v_loadRg rfl hr hc) ?_
    refine s_take 4 rfl (by kernel_rfl) rfl (v_move rfl) ?_
    refine s_take 5 rfl (by kernel_rfl) rfl (v_move rfl) ?_
    refine s_take 6 rfl (by kernel_rfl) rfl (v_indexAddrR (b := b2) (o := o2) rfl rfl hs2 hc) ?_
    refine s_take 7 rfl (by kernel_rfl) rfl (v_loadRg rfl hr2 hc) ?_
    refine s_take 8 rfl (by kernel_rfl) rfl (v_neRg rfl rfl) ?_
    refine s_done (by kernel_rfl) ?_
    refine a_normal ?_
    refine w_condN rfl rfl ?_
    refine w_skip ?_
    refine a_bnormal ?_
    refine a_normal ?_
    refine w_region rfl ?_
    refine l_val (v_move rfl) rfl ?_
    refine l_val (v_addI (j := 1) rfl rfl (by omega)) rfl ?_
    refine l_val (v_assign rfl) rfl ?_
    refine l_nil ?_
    exact a_loop (j + 1) hc (by show rs.length - (j + 1) < rs.length - j; omega) (.cons rfl (.cons rfl (.cons rfl .nil))) rfl
  · skip
    refine w_exit ?_
    refine a_texit ?_
    refine a_texit ?_
    refine a_bexit ?_
    refine a_normal ?_
    refine w_seq ?_
    refine w_region rfl ?_
    refine l_val (v_assign rfl) rfl ?_
    refine l_nil ?_
    refine a_normal ?_
    refine w_ret ?_
    exact a_ret (ts := [4]) rfl rfl ⟨rfl, rfl⟩

theorem sameFrames_spec (fs : List Frm) (p : Option Addr) (c b o : Nat) (rs : List RF) (q : Option Addr) (k bb oo : Nat) (ts : List RF) (H : HP) (hfs : RdFs B H p c fs b o rs) (hgs : RdFs B H q k fs bb oo ts) (hn : fs.length < 1000000000000) (hsz : ∀ f ∈ fs, f.ranges.length < 1000000000000) :
    Fn Tryd.prog B 17 [.slice p fs.length c, .slice q fs.length k] H (fun v H' => v = .bool true ∧ H' = H) := by
  refine fn_intro Tryd.func17 rfl rfl rfl ?_
  have hrl := hfs.len
  have htl := hgs.len
  refine w_seq ?_
  refine w_region rfl ?_
  refine l_val (v_assign rfl) rfl ?_
  refine l_nil ?_
  refine a_normal ?_
  refine w_seq ?_
  refine w_seq ?_
  refine w_region rfl ?_
  refine l_val (v_move rfl) rfl ?_
  refine l_val (v_lenS rfl) rfl ?_
  refine l_val (v_move rfl) rfl ?_
  refine l_val (v_lenS rfl) rfl ?_
  refine l_val (v_neq rfl rfl) rfl ?_
  refine l_nil ?_
  refine a_normal ?_
  refine w_condN rfl (decide_eq_false (fun h => h rfl)) ?_
  refine w_skip ?_
  refine a_normal ?_
  refine w_seq ?_
  refine w_seq ?_
  refine w_region rfl ?_
  refine l_val (v_assign (v := .int .i64 (0 : Nat)) rfl) rfl ?_
  refine l_nil ?_
  refine a_normal ?_
  refine w_block ?_
  refine w_loop (fun j : Nat => [(0, .slice p fs.length c), (1, .slice q fs.length k), (5, iN j)]) (fun _ => H) (fun j => j ≤ fs.length) (fun j => fs.length - j) 0 (Nat.zero_le _) (.cons rfl (.cons rfl (.cons rfl .nil))) rfl ?_
  rintro i hi
  dsimp only at hi ⊢
  refine w_seq ?_
  refine w_seq ?_
  refine w_region rfl ?_
  refine l_val (v_move rfl) rfl ?_
  refine l_val (v_move rfl) rfl ?_
  refine l_val (v_lenS rfl) rfl ?_
  refine l_val (v_lss rfl rfl) rfl ?_
  refine l_nil ?_
  refine a_normal ?_
  refine w_condD rfl (fun hc => ?_) (fun hc => ?_)
  · skip
    obtain ⟨p1, b1, o1, c1, s1, e1, hk1, hd1⟩ := frm_at hfs hc
    obtain ⟨p2, b2, o2, c2, s2, e2, hk2, hd2⟩ := frm_at hgs hc
    have hrn : (fs.getD i F0).ranges.length < 1000000000000 := hsz _ (by rw [getD_in _ _ _ hc]; exact List.getElem_mem _)
    refine w_skip ?_
    refine a_normal ?_
    refine w_seq ?_
    refine w_block ?_
    refine w_seq ?_
    refine w_region rfl ?_
    refine l_val (v_move rfl) rfl ?_
    refine l_val (v_move rfl) rfl ?_
    refine l_val (v_indexAddrR (b := b) (o := o) rfl rfl hfs.sl hc) rfl ?_
    refine l_val (v_loadEe (i := i) (o := o) (xs := rs) (⟨(fs.getD i F0), p1, b1, o1, c1, s1⟩ : RF) e1 rfl (let _ := hfs.rd; inferInstance) (by omega)) rfl ?_
    refine l_eff (e_alloc (l := [.int .i64 0, .int .i64 0, .int .u64 0, .int .u64 0, .bool false, .string ⟨#[]⟩, .slice none 0 0]) rfl) rfl ?_
    rintro _ _ ⟨b6, rfl, rfl⟩
    refine l_eff0 (e_storeA (cs := encRF (⟨(fs.getD i F0), p1, b1, o1, c1, s1⟩ : RF)) rfl rfl (by constructor <;> rfl) (Lay.one (⟨(fs.getD i F0), p1, b1, o1, c1, s1⟩ : RF))) ?_
    rintro _ _ ⟨rfl, rfl⟩
    refine l_nil ?_
    refine a_normal ?_
    refine w_seq ?_
    refine w_region rfl ?_
    refine l_val (v_move rfl) rfl ?_
    refine l_val (v_move rfl) rfl ?_
    refine l_val (v_indexAddrR (b := bb) (o := oo) rfl rfl hgs.sl hc) rfl ?_
    refine l_val (v_loadEe (i := i) (o := oo) (xs := ts) (⟨(fs.getD i F0), p2, b2, o2, c2, s2⟩ : RF) e2 rfl (let _ := hgs.rd; inferInstance) (by omega)) rfl ?_
    refine l_eff (e_alloc (l := [.int .i64 0, .int .i64 0, .int .u64 0, .int .u64 0, .bool false, .string ⟨#[]⟩, .slice none 0 0]) rfl) rfl ?_
    rintro _ _ ⟨b7, rfl, rfl⟩
    refine l_eff0 (e_storeA (cs := encRF (⟨(fs.getD i F0), p2, b2, o2, c2, s2⟩ : RF)) rfl rfl (by constructor <;> rfl) (Lay.one (⟨(fs.getD i F0), p2, b2, o2, c2, s2⟩ : RF))) ?_
    rintro _ _ ⟨rfl, rfl⟩
    refine l_nil ?_
    refine a_normal ?_
    refine w_seq ?_
    refine w_region rfl ?_
    refine l_val (v_fieldAddr rfl) rfl ?_
    refine l_val (v_load rfl trivial) rfl ?_
    refine l_val (v_fieldAddr rfl) rfl ?_
    refine l_val (v_load rfl trivial) rfl ?_
    refine l_eff (e_call rfl (sameRanges_spec (fs.getD i F0).ranges p1 b1 o1 c1 p2 b2 o2 c2 _ hk1 (let _ := hd1; inferInstance) hk2 (let _ := hd2; inferInstance) hrn)) rfl ?_
    rintro _ _ ⟨rfl, rfl⟩
    refine l_val (v_assign rfl) rfl ?_
    refine l_nil ?_
    refine a_normal ?_
    refine w_seq ?_
    refine w_region rfl ?_
    refine l_val (v_move rfl) rfl ?_
    refine l_val (v_not rfl) rfl ?_
    refine l_val (v_move rfl) rfl ?_
    refine l_gY rfl rfl rfl rfl ?_
    refine l_val (v_fieldAddr rfl) rfl ?_
    refine l_gY rfl rfl rfl rfl ?_
    refine l_val (v_load rfl trivial) rfl ?_
    refine l_gY rfl rfl rfl rfl ?_
    refine l_val (v_fieldAddr rfl) rfl ?_
    refine l_gY rfl rfl rfl rfl ?_
    refine l_val (v_load rfl trivial) rfl ?_
    refine l_gY rfl rfl rfl rfl ?_
    refine l_val (v_neqZ rfl rfl) rfl ?_
    refine l_val (v_pickN rfl rfl rfl) rfl ?_
    refine l_val (v_move rfl) rfl ?_
    refine l_gY rfl rfl rfl (decide_eq_false (fun h => h rfl)) ?_
    refine l_val (v_fieldAddr rfl) rfl ?_
    refine l_gY rfl rfl rfl (decide_eq_false (fun h => h rfl)) ?_
    refine l_val (v_load rfl trivial) rfl ?_
    refine l_gY rfl rfl rfl (decide_eq_false (fun h => h rfl)) ?_
    refine l_val (v_fieldAddr rfl) rfl ?_
    refine l_gY rfl rfl rfl (decide_eq_false (fun h => h rfl)) ?_
    refine l_val (v_load rfl trivial) rfl ?_
    refine l_gY rfl rfl rfl (decide_eq_false (fun h => h rfl)) ?_
    refine l_val (v_neqZ rfl rfl) rfl ?_
    refine l_val (v_pickN (decide_eq_false (fun h => h rfl)) rfl rfl) rfl ?_
    refine l_val (v_move rfl) rfl ?_
    refine l_gY rfl rfl rfl (decide_eq_false (fun h => h rfl)) ?_
    refine l_val (v_fieldAddr rfl) rfl ?_
    refine l_gY rfl rfl rfl (decide_eq_false (fun h => h rfl)) ?_
    refine l_val (v_load rfl trivial) rfl ?_
    refine l_gY rfl rfl rfl (decide_eq_false (fun h => h rfl)) ?_
    refine l_val (v_fieldAddr rfl) rfl ?_
    refine l_gY rfl rfl rfl (decide_eq_false (fun h => h rfl)) ?_
    refine l_val (v_load rfl trivial) rfl ?_
    refine l_gY rfl rfl rfl (decide_eq_false (fun h => h rfl)) ?_
    refine l_val (v_neq rfl rfl) rfl ?_
    refine l_val (v_pickN (decide_eq_false (fun h => h rfl)) rfl rfl) rfl ?_
    refine l_val (v_move rfl) rfl ?_
    refine l_gY rfl rfl rfl (decide_eq_false (fun h => h rfl)) ?_
    refine l_val (v_fieldAddr rfl) rfl ?_
    refine l_gY rfl rfl rfl (decide_eq_false (fun h => h rfl)) ?_
    refine l_val (v_load rfl trivial) rfl ?_
    refine l_gY rfl rfl rfl (decide_eq_false (fun h => h rfl)) ?_
    refine l_val (v_fieldAddr rfl) rfl ?_
    refine l_gY rfl rfl rfl (decide_eq_false (fun h => h rfl)) ?_
    refine l_val (v_load rfl trivial) rfl ?_
    refine l_gY rfl rfl rfl (decide_eq_false (fun h => h rfl)) ?_
    refine l_val (v_neq rfl rfl) rfl ?_
    refine l_val (v_pickN (decide_eq_false (fun h => h rfl)) rfl rfl) rfl ?_
    refine l_val (v_move rfl) rfl ?_
    refine l_gY rfl rfl rfl (decide_eq_false (fun h => h rfl)) ?_
    refine l_val (v_fieldAddr rfl) rfl ?_
    refine l_gY rfl rfl rfl (decide_eq_false (fun h => h rfl)) ?_
    refine l_val (v_load rfl trivial) rfl ?_
    refine l_gY rfl rfl rfl (decide_eq_false (fun h => h rfl)) ?_
    refine l_val (v_fieldAddr rfl) rfl ?_
    refine l_gY rfl rfl rfl (decide_eq_false (fun h => h rfl)) ?_
    refine l_val (v_load rfl trivial) rfl ?_
    refine l_gY rfl rfl rfl (decide_eq_false (fun h => h rfl)) ?_
    refine l_val (v_neB rfl rfl) rfl ?_
    refine l_val (v_pickN (decide_eq_false (fun h => h rfl)) rfl rfl) rfl ?_
    refine l_val (v_move rfl) rfl ?_
    refine l_gY rfl rfl rfl (by simp) ?_
    refine l_val (v_fieldAddr rfl) rfl ?_
    refine l_gY rfl rfl rfl (by simp) ?_
    refine l_val (v_load rfl trivial) rfl ?_
    refine l_gY rfl rfl rfl (by simp) ?_
    refine l_val (v_fieldAddr rfl) rfl ?_
    refine l_gY rfl rfl rfl (by simp) ?_
    refine l_val (v_load rfl trivial) rfl ?_
    refine l_gY rfl rfl rfl (by simp) ?_
    refine l_val (v_neS rfl rfl) rfl ?_
    refine l_val (v_pickN (by simp) rfl rfl) rfl ?_
    refine l_nil ?_
    refine a_normal ?_
    refine w_condN rfl (decide_eq_false (fun h => h rfl)) ?_
    refine w_skip ?_
    refine a_bnormal ?_
    refine a_normal ?_
    refine w_region rfl ?_
    refine l_val (v_move rfl) rfl ?_
    refine l_val (v_addI (j := 1) rfl rfl (by omega)) rfl ?_
    refine l_val (v_assign rfl) rfl ?_
    refine l_nil ?_
    refine a_ent H ?_
    exact a_loop (i + 1) hc (by show fs.length - (i + 1) < fs.length - i; omega) (.cons rfl (.cons rfl (.cons rfl .nil))) rfl
  · skip
    refine w_exit ?_
    refine a_texit ?_
    refine a_texit ?_
    refine a_bexit ?_
    refine a_normal ?_
    refine w_seq ?_
    refine w_region rfl ?_
    refine l_val (v_assign rfl) rfl ?_
    refine l_nil ?_
    refine a_normal ?_
    refine w_ret ?_
    exact a_ret (ts := [4]) rfl rfl ⟨rfl, rfl⟩

theorem rencode_any (fs : List Frm) (p : Option Addr) (c b o : Nat) (rs : List RF) (H : HP) (hfs : RdFs B H p c fs b o rs) (hmd : ∀ r ∈ rs, Mod r) (hn : fs.length < 10000000000) (hel : (encAll fs).length < 100000000000) :
    Fn Tryd.prog B 14 [.slice p fs.length c] H (fun v H' => ∃ (q : Option Addr) (b' o' c' : Nat) (s' : List Value) (ys : List UInt8) (k : Nat), v = .tuple #[.slice q ys.length c', .int .i64 k] ∧ Sl q b' o' ys.length c' ∧ ys.length * 1 + s'.length = c' * 1 ∧ H' = arr b' o' ys s' * H ∧ ((encL fs = none ∧ ys = [] ∧ q = none ∧ c' = 0 ∧ k = 5) ∨ (encL fs = some ys ∧ ys ≠ [] ∧ k = 0))) := by
  refine (rencode_spec fs p c b o rs H hfs hmd hn hel).mono ?_
  cases hop : encL fs with
  | none =>
    rintro v H' ⟨rfl, rfl⟩
    exact ⟨none, 0, 0, 0, [], [], 5, rfl, ⟨.inl rfl, Nat.le_refl _⟩, rfl, by rw [arr_nil, HP.emp_mul], .inl ⟨rfl, rfl, rfl, rfl, rfl⟩⟩
  | some ys =>
    rintro v H' ⟨sv, rfl, q, b', o', c', s', rfl, h1, h2, rfl⟩
    exact ⟨q, b', o', c', s', ys, 0, rfl, h1, h2, rfl, .inr ⟨rfl, (encL_ne hop).1, rfl⟩⟩
theorem dec_sizes_any {xs : List UInt8} {fs : List Frm} {q : Option Addr} {c' k : Nat} {at_ : Value} (h : (∃ e, decL xs = .error e ∧ fs = [] ∧ q = none ∧ c' = 0 ∧ k = 5 ∧ at_ = iN e) ∨ (decL xs = .ok fs ∧ k = 0 ∧ at_ = .int .i64 (-1))) :
    fs.length ≤ xs.length ∧ (∀ f ∈ fs, f.ranges.length ≤ xs.length ∧ f.data.size ≤ xs.length) ∧ ∃ z : Int, at_ = .int .i64 z := by
  rcases h with ⟨e, _, rfl, _, _, _, rfl⟩ | ⟨e, _, rfl⟩
  · exact ⟨Nat.zero_le _, fun f hf => by simp at hf, _, rfl⟩
  · exact ⟨(decL_sizes e).1, (decL_sizes e).2, _, rfl⟩
theorem dec_same {xs : List UInt8} {fs gs : List Frm} {q q2 : Option Addr} {c' c2 k k2 : Nat} {at_ at2 : Value} (h : (∃ e, decL xs = .error e ∧ fs = [] ∧ q = none ∧ c' = 0 ∧ k = 5 ∧ at_ = iN e) ∨ (decL xs = .ok fs ∧ k = 0 ∧ at_ = .int .i64 (-1)))
    (h2 : (∃ e, decL xs = .error e ∧ gs = [] ∧ q2 = none ∧ c2 = 0 ∧ k2 = 5 ∧ at2 = iN e) ∨ (decL xs = .ok gs ∧ k2 = 0 ∧ at2 = .int .i64 (-1))) : gs = fs ∧ k2 = k ∧ at2 = at_ := by
  rcases h with ⟨e, h, rfl, _, _, rfl, rfl⟩ | ⟨h, rfl, rfl⟩ <;> rcases h2 with ⟨e2, h2, rfl, _, _, rfl, rfl⟩ | ⟨h2, rfl, rfl⟩ <;> rw [h] at h2 <;> cases h2 <;> exact ⟨rfl, rfl, rfl⟩
theorem enc_same {fs : List Frm} {q q2 : Option Addr} {c' c2 k k2 : Nat} {ys zs : List UInt8} (h : (encL fs = none ∧ ys = [] ∧ q = none ∧ c' = 0 ∧ k = 5) ∨ (encL fs = some ys ∧ ys ≠ [] ∧ k = 0))
    (h2 : (encL fs = none ∧ zs = [] ∧ q2 = none ∧ c2 = 0 ∧ k2 = 5) ∨ (encL fs = some zs ∧ zs ≠ [] ∧ k2 = 0)) : zs = ys ∧ k2 = k := by
  rcases h with ⟨h, rfl, _, _, rfl⟩ | ⟨h, _, rfl⟩ <;> rcases h2 with ⟨h2, rfl, _, _, rfl⟩ | ⟨h2, _, rfl⟩ <;> rw [h] at h2 <;> cases h2 <;> exact ⟨rfl, rfl⟩
theorem enc_len {fs : List Frm} {q : Option Addr} {c' k : Nat} {ys : List UInt8} (h : (encL fs = none ∧ ys = [] ∧ q = none ∧ c' = 0 ∧ k = 5) ∨ (encL fs = some ys ∧ ys ≠ [] ∧ k = 0)) : ys.length ≤ (encAll fs).length ∧ (ys.length = 0 → ys = [] ∧ q = none ∧ c' = 0) := by
  rcases h with ⟨_, rfl, rfl, rfl, _⟩ | ⟨h, hne, _⟩
  · exact ⟨Nat.zero_le _, fun _ => ⟨rfl, rfl, rfl⟩⟩
  · exact ⟨by rw [(encL_ne h).2]; exact Nat.le_refl _, fun h => absurd (List.length_eq_zero_iff.1 h) hne⟩

theorem coded_spec (hG : B.cell? ⟨0, 0, none⟩ = some (rty 55)) (fs : List Frm) (p : Option Addr) (c b o : Nat) (rs : List RF) (s : ByteArray) (H : HP) (hfs : RdFs B H p c fs b o rs) (hmd : ∀ r ∈ rs, Mod r) (hn : fs.length < 10000000000) (hel : (encAll fs).length < 900000000) :
    Fn Tryd.prog B 4 [.slice p fs.length c, .string s] H (fun v _ => v = .bool true) := by
  have hsz : s.data.toList.length = s.size := by rw [Array.length_toList]; rfl
  refine fn_intro Tryd.func4 rfl rfl rfl ?_
  refine w_seq ?_
  refine w_region rfl ?_
  refine l_val (v_assign rfl) rfl ?_
  refine l_nil ?_
  refine a_normal ?_
  refine w_seq ?_
  refine w_seq ?_
  refine w_region rfl ?_
  refine l_val (v_move rfl) rfl ?_
  refine l_val (v_lenStr rfl) rfl ?_
  refine l_val (v_gtr (j := 16384) rfl rfl) rfl ?_
  refine l_val (v_move rfl) rfl ?_
  refine l_case 17 rfl (fun hg1 => ?_) (fun hg1 => ?_)
  · skip
    refine l_gN rfl rfl rfl (decide_eq_true hg1) ?_
    refine l_gN rfl rfl rfl (decide_eq_true hg1) ?_
    refine l_gN rfl rfl rfl (decide_eq_true hg1) ?_
    refine l_val (v_pickY (decide_eq_true hg1) rfl rfl) rfl ?_
    refine l_nil ?_
    refine a_normal ?_
    refine w_condY rfl rfl ?_
    refine w_seq ?_
    refine w_region rfl ?_
    refine l_val (v_assign rfl) rfl ?_
    refine l_nil ?_
    refine a_normal ?_
    refine w_ret ?_
    refine a_tret ?_
    exact a_ret (ts := [4]) rfl rfl rfl
  · skip
    refine l_gY rfl rfl rfl (decide_eq_false hg1) ?_
    refine l_val (v_move rfl) rfl ?_
    refine l_gY rfl rfl rfl (decide_eq_false hg1) ?_
    refine l_val (v_lenS rfl) rfl ?_
    refine l_gY rfl rfl rfl (decide_eq_false hg1) ?_
    refine l_val (v_gtr (j := 1000) rfl rfl) rfl ?_
    refine l_val (v_pickN (decide_eq_false hg1) rfl rfl) rfl ?_
    refine l_nil ?_
    refine a_normal ?_
    refine w_condD rfl (fun hc => ?_) (fun hc => ?_)
    · skip
      refine w_seq ?_
      refine w_region rfl ?_
      refine l_val (v_assign rfl) rfl ?_
      refine l_nil ?_
      refine a_normal ?_
      refine w_ret ?_
      refine a_tret ?_
      exact a_ret (ts := [4]) rfl rfl rfl
    · skip
      refine w_skip ?_
      refine a_normal ?_
      refine w_seq ?_
      refine w_region rfl ?_
      refine l_val (v_move rfl) rfl ?_
      refine l_eff (e_call rfl (pencode_spec hG fs p c b o rs _ hfs hmd hn (by omega))) rfl ?_
      rintro _ _ ⟨q24, b24, o24, c24, s24, ys, k24, rfl, hs24, hc24, rfl, hr24⟩
      have hel24 := enc_len hr24
      refine l_val (v_move rfl) rfl ?_
      refine l_val (v_extract rfl rfl) rfl ?_
      refine l_val (v_extract rfl rfl) rfl ?_
      refine l_val (v_assign rfl) rfl ?_
      refine l_val (v_assign rfl) rfl ?_
      refine l_nil ?_
      refine a_normal ?_
      refine w_seq ?_
      refine w_region rfl ?_
      refine l_val (v_move rfl) rfl ?_
      refine l_eff (e_call rfl (rencode_any fs p c b o rs _ hfs.right hmd hn (by omega))) rfl ?_
      rintro _ _ ⟨q29, b29, o29, c29, s29, ys29, k29, rfl, hs29, hc29, rfl, hr29⟩
      obtain ⟨rfl, rfl⟩ := enc_same hr24 hr29
      refine l_val (v_move rfl) rfl ?_
      refine l_val (v_extract rfl rfl) rfl ?_
      refine l_val (v_extract rfl rfl) rfl ?_
      refine l_val (v_assign rfl) rfl ?_
      refine l_val (v_assign rfl) rfl ?_
      refine l_nil ?_
      refine a_normal ?_
      refine w_seq ?_
      refine w_seq ?_
      refine w_region rfl ?_
      refine l_val (v_move rfl) rfl ?_
      refine l_val (v_move rfl) rfl ?_
      refine l_val (v_neq rfl rfl) rfl ?_
      refine l_val (v_move rfl) rfl ?_
      refine l_gY rfl rfl rfl (decide_eq_false (fun h => h rfl)) ?_
      refine l_val (v_move rfl) rfl ?_
      refine l_gY rfl rfl rfl (decide_eq_false (fun h => h rfl)) ?_
      refine l_val (v_bytes2str (xs := ys29) rfl hs24 inferInstance) rfl ?_
      refine l_gY rfl rfl rfl (decide_eq_false (fun h => h rfl)) ?_
      refine l_val (v_move rfl) rfl ?_
      refine l_gY rfl rfl rfl (decide_eq_false (fun h => h rfl)) ?_
      refine l_val (v_bytes2str (xs := ys29) rfl hs29 inferInstance) rfl ?_
      refine l_gY rfl rfl rfl (decide_eq_false (fun h => h rfl)) ?_
      refine l_val (v_neS rfl rfl) rfl ?_
      refine l_val (v_pickN (decide_eq_false (fun h => h rfl)) rfl rfl) rfl ?_
      refine l_val (v_move rfl) rfl ?_
      refine l_gY rfl rfl rfl (decide_eq_false (fun h => h rfl)) ?_
      refine l_val (v_move rfl) rfl ?_
      refine l_gY rfl rfl rfl (decide_eq_false (fun h => h rfl)) ?_
      refine l_val (v_lenS rfl) rfl ?_
      refine l_gY rfl rfl rfl (decide_eq_false (fun h => h rfl)) ?_
      refine l_val (v_eql (j := 0) rfl rfl) rfl ?_
      refine l_gY rfl rfl rfl (decide_eq_false (fun h => h rfl)) ?_
      refine l_val (v_move rfl) rfl ?_
      refine l_case 46 rfl (fun hg2 => ?_) (fun hg2 => ?_)
      · skip
        obtain ⟨rfl, rfl, rfl⟩ := hel24.2 hg2
        refine l_gY rfl rfl rfl (decide_eq_true hg2) ?_
        refine l_val (v_move rfl) rfl ?_
        refine l_gY rfl rfl rfl (decide_eq_true hg2) ?_
        refine l_val (v_bin (r := .bool false) rfl rfl (fun w => by kernel_rfl) (fun w => by kernel_rfl)) rfl ?_
        refine l_gY rfl rfl rfl (decide_eq_false (fun h => h rfl)) ?_
        refine l_val (v_pickY (decide_eq_true hg2) rfl rfl) rfl ?_
        refine l_val (v_pickN (decide_eq_false (fun h => h rfl)) rfl rfl) rfl ?_
        refine l_nil ?_
        refine a_normal ?_
        refine w_condN rfl rfl ?_
        refine w_skip ?_
        refine a_normal ?_
        refine w_seq ?_
        refine w_region rfl ?_
        refine l_val (v_move rfl) rfl ?_
        refine l_eff (e_str2bytes rfl) rfl ?_
        rintro _ _ ⟨p53, b53, o53, c53, s53, rfl, hs53, hc53, rfl⟩
        refine l_eff (e_call rfl (pdecode_spec hG p53 b53 o53 c53 s.data.toList _ hs53 inferInstance (by rw [hsz]; omega))) rfl ?_
        rintro _ _ ⟨q54, b54, o54, c54, s54, rs54, fs54, k54, at54, rfl, hs54, hc54, hm54, ho54, rfl, hr54⟩
        obtain ⟨hl54, hz54, z54, rfl⟩ := dec_sizes_any hr54
        refine l_val (v_move rfl) rfl ?_
        refine l_val (v_extract rfl rfl) rfl ?_
        refine l_val (v_extract rfl rfl) rfl ?_
        refine l_val (v_extract rfl rfl) rfl ?_
        refine l_val (v_assign rfl) rfl ?_
        refine l_val (v_assign rfl) rfl ?_
        refine l_val (v_assign rfl) rfl ?_
        refine l_nil ?_
        refine a_normal ?_
        refine w_seq ?_
        refine w_region rfl ?_
        refine l_val (v_move rfl) rfl ?_
        refine l_eff (e_str2bytes rfl) rfl ?_
        rintro _ _ ⟨p60, b60, o60, c60, s60, rfl, hs60, hc60, rfl⟩
        refine l_eff (e_call rfl (rdecode_spec p60 b60 o60 c60 s.data.toList _ hs60 inferInstance (by rw [hsz]; omega))) rfl ?_
        rintro _ _ ⟨q61, b61, o61, c61, s61, rs61, fs61, k61, at61, rfl, hs61, hc61, hm61, ho61, rfl, hr61⟩
        obtain ⟨rfl, rfl, rfl⟩ := dec_same hr54 hr61
        refine l_val (v_move rfl) rfl ?_
        refine l_val (v_extract rfl rfl) rfl ?_
        refine l_val (v_extract rfl rfl) rfl ?_
        refine l_val (v_extract rfl rfl) rfl ?_
        refine l_val (v_assign rfl) rfl ?_
        refine l_val (v_assign rfl) rfl ?_
        refine l_val (v_assign rfl) rfl ?_
        refine l_nil ?_
        refine a_normal ?_
        refine w_seq ?_
        refine w_region rfl ?_
        refine l_val (v_move rfl) rfl ?_
        refine l_val (v_move rfl) rfl ?_
        refine l_eff (e_call rfl (sameFrames_spec fs61 _ _ _ _ _ _ _ _ _ _ _ (IsFs.rd hs54 hm54 ho54).right.right.right (IsFs.rd hs61 hm61 ho61) (by omega) (fun f hf => by have := (hz54 f hf).1; omega))) rfl ?_
        rintro _ _ ⟨rfl, rfl⟩
        refine l_val (v_assign rfl) rfl ?_
        refine l_nil ?_
        refine a_normal ?_
        refine w_seq ?_
        refine w_seq ?_
        refine w_region rfl ?_
        refine l_val (v_move rfl) rfl ?_
        refine l_val (v_move rfl) rfl ?_
        refine l_val (v_neq rfl rfl) rfl ?_
        refine l_val (v_move rfl) rfl ?_
        refine l_gY rfl rfl rfl (decide_eq_false (fun h => h rfl)) ?_
        refine l_val (v_move rfl) rfl ?_
        refine l_gY rfl rfl rfl (decide_eq_false (fun h => h rfl)) ?_
        refine l_val (v_move rfl) rfl ?_
        refine l_gY rfl rfl rfl (decide_eq_false (fun h => h rfl)) ?_
        refine l_val (v_neqZ rfl rfl) rfl ?_
        refine l_val (v_pickN (decide_eq_false (fun h => h rfl)) rfl rfl) rfl ?_
        refine l_val (v_move rfl) rfl ?_
        refine l_gY rfl rfl rfl (decide_eq_false (fun h => h rfl)) ?_
        refine l_val (v_move rfl) rfl ?_
        refine l_gY rfl rfl rfl (decide_eq_false (fun h => h rfl)) ?_
        refine l_val (v_not rfl) rfl ?_
        refine l_val (v_pickN (decide_eq_false (fun h => h rfl)) rfl rfl) rfl ?_
        refine l_nil ?_
        refine a_normal ?_
        refine w_condN rfl rfl ?_
        refine w_skip ?_
        refine a_normal ?_
        refine w_seq ?_
        refine w_seq ?_
        refine w_region rfl ?_
        refine l_val (v_move rfl) rfl ?_
        refine l_val (v_lenS rfl) rfl ?_
        refine l_val (v_eql (j := 0) rfl rfl) rfl ?_
        refine l_nil ?_
        refine a_normal ?_
        refine w_condD rfl (fun hc => ?_) (fun hc => ?_)
        · skip
          refine w_seq ?_
          refine w_region rfl ?_
          refine l_val (v_assign rfl) rfl ?_
          refine l_nil ?_
          refine a_normal ?_
          refine w_ret ?_
          refine a_tret ?_
          exact a_ret (ts := [4]) rfl rfl rfl
        · skip
          refine w_skip ?_
          refine a_normal ?_
          refine w_seq ?_
          refine w_region rfl ?_
          refine l_val (v_move rfl) rfl ?_
          refine l_eff (e_call rfl (pdecode_spec hG q29 b29 o29 c29 _ _ hs29 inferInstance (by omega))) rfl ?_
          rintro _ _ ⟨q85, b85, o85, c85, s85, rs85, fs85, k85, at85, rfl, hs85, hc85, hm85, ho85, rfl, hr85⟩
          obtain ⟨hl85, hz85, z85, rfl⟩ := dec_sizes_any hr85
          refine l_val (v_move rfl) rfl ?_
          refine l_val (v_extract rfl rfl) rfl ?_
          refine l_val (v_extract rfl rfl) rfl ?_
          refine l_val (v_extract rfl rfl) rfl ?_
          refine l_val (v_assign rfl) rfl ?_
          refine l_val (v_assign rfl) rfl ?_
          refine l_nil ?_
          refine a_normal ?_
          refine w_seq ?_
          refine w_region rfl ?_
          refine l_val (v_move rfl) rfl ?_
          refine l_eff (e_call rfl (rdecode_spec q29 b29 o29 c29 _ _ hs29 inferInstance (by omega))) rfl ?_
          rintro _ _ ⟨q91, b91, o91, c91, s91, rs91, fs91, k91, at91, rfl, hs91, hc91, hm91, ho91, rfl, hr91⟩
          obtain ⟨rfl, rfl, rfl⟩ := dec_same hr85 hr91
          refine l_val (v_move rfl) rfl ?_
          refine l_val (v_extract rfl rfl) rfl ?_
          refine l_val (v_extract rfl rfl) rfl ?_
          refine l_val (v_extract rfl rfl) rfl ?_
          refine l_val (v_assign rfl) rfl ?_
          refine l_val (v_assign rfl) rfl ?_
          refine l_nil ?_
          refine a_normal ?_
          refine w_seq ?_
          refine w_region rfl ?_
          refine l_val (v_move rfl) rfl ?_
          refine l_val (v_move rfl) rfl ?_
          refine l_eff (e_call rfl (sameFrames_spec fs91 _ _ _ _ _ _ _ _ _ _ _ (IsFs.rd hs85 hm85 ho85).right.right (IsFs.rd hs91 hm91 ho91) (by omega) (fun f hf => by have := (hz85 f hf).1; omega))) rfl ?_
          rintro _ _ ⟨rfl, rfl⟩
          refine l_val (v_assign rfl) rfl ?_
          refine l_nil ?_
          refine a_normal ?_
          refine w_seq ?_
          refine w_region rfl ?_
          refine l_val (v_move rfl) rfl ?_
          refine l_val (v_move rfl) rfl ?_
          refine l_val (v_eql rfl rfl) rfl ?_
          refine l_val (v_move rfl) rfl ?_
          refine l_gY rfl rfl rfl (decide_eq_true rfl) ?_
          refine l_val (v_move rfl) rfl ?_
          refine l_val (v_pickY (decide_eq_true rfl) rfl rfl) rfl ?_
          refine l_val (v_assign rfl) rfl ?_
          refine l_nil ?_
          refine a_normal ?_
          refine w_ret ?_
          exact a_ret (ts := [4]) rfl rfl rfl
      · skip
        refine l_gN rfl rfl rfl (decide_eq_false hg2) ?_
        refine l_gN rfl rfl rfl (decide_eq_false hg2) ?_
        refine l_gY rfl rfl rfl (decide_eq_false (fun h => h rfl)) ?_
        refine l_val (v_pickN (decide_eq_false hg2) rfl rfl) rfl ?_
        refine l_val (v_pickN (decide_eq_false (fun h => h rfl)) rfl rfl) rfl ?_
        refine l_nil ?_
        refine a_normal ?_
        refine w_condN rfl rfl ?_
        refine w_skip ?_
        refine a_normal ?_
        refine w_seq ?_
        refine w_region rfl ?_
        refine l_val (v_move rfl) rfl ?_
        refine l_eff (e_str2bytes rfl) rfl ?_
        rintro _ _ ⟨p53, b53, o53, c53, s53, rfl, hs53, hc53, rfl⟩
        refine l_eff (e_call rfl (pdecode_spec hG p53 b53 o53 c53 s.data.toList _ hs53 inferInstance (by rw [hsz]; omega))) rfl ?_
        rintro _ _ ⟨q54, b54, o54, c54, s54, rs54, fs54, k54, at54, rfl, hs54, hc54, hm54, ho54, rfl, hr54⟩
        obtain ⟨hl54, hz54, z54, rfl⟩ := dec_sizes_any hr54
        refine l_val (v_move rfl) rfl ?_
        refine l_val (v_extract rfl rfl) rfl ?_
        refine l_val (v_extract rfl rfl) rfl ?_
        refine l_val (v_extract rfl rfl) rfl ?_
        refine l_val (v_assign rfl) rfl ?_
        refine l_val (v_assign rfl) rfl ?_
        refine l_val (v_assign rfl) rfl ?_
        refine l_nil ?_
        refine a_normal ?_
        refine w_seq ?_
        refine w_region rfl ?_
        refine l_val (v_move rfl) rfl ?_
        refine l_eff (e_str2bytes rfl) rfl ?_
        rintro _ _ ⟨p60, b60, o60, c60, s60, rfl, hs60, hc60, rfl⟩
        refine l_eff (e_call rfl (rdecode_spec p60 b60 o60 c60 s.data.toList _ hs60 inferInstance (by rw [hsz]; omega))) rfl ?_
        rintro _ _ ⟨q61, b61, o61, c61, s61, rs61, fs61, k61, at61, rfl, hs61, hc61, hm61, ho61, rfl, hr61⟩
        obtain ⟨rfl, rfl, rfl⟩ := dec_same hr54 hr61
        refine l_val (v_move rfl) rfl ?_
        refine l_val (v_extract rfl rfl) rfl ?_
        refine l_val (v_extract rfl rfl) rfl ?_
        refine l_val (v_extract rfl rfl) rfl ?_
        refine l_val (v_assign rfl) rfl ?_
        refine l_val (v_assign rfl) rfl ?_
        refine l_val (v_assign rfl) rfl ?_
        refine l_nil ?_
        refine a_normal ?_
        refine w_seq ?_
        refine w_region rfl ?_
        refine l_val (v_move rfl) rfl ?_
        refine l_val (v_move rfl) rfl ?_
        refine l_eff (e_call rfl (sameFrames_spec fs61 _ _ _ _ _ _ _ _ _ _ _ (IsFs.rd hs54 hm54 ho54).right.right.right (IsFs.rd hs61 hm61 ho61) (by omega) (fun f hf => by have := (hz54 f hf).1; omega))) rfl ?_
        rintro _ _ ⟨rfl, rfl⟩
        refine l_val (v_assign rfl) rfl ?_
        refine l_nil ?_
        refine a_normal ?_
        refine w_seq ?_
        refine w_seq ?_
        refine w_region rfl ?_
        refine l_val (v_move rfl) rfl ?_
        refine l_val (v_move rfl) rfl ?_
        refine l_val (v_neq rfl rfl) rfl ?_
        refine l_val (v_move rfl) rfl ?_
        refine l_gY rfl rfl rfl (decide_eq_false (fun h => h rfl)) ?_
        refine l_val (v_move rfl) rfl ?_
        refine l_gY rfl rfl rfl (decide_eq_false (fun h => h rfl)) ?_
        refine l_val (v_move rfl) rfl ?_
        refine l_gY rfl rfl rfl (decide_eq_false (fun h => h rfl)) ?_
        refine l_val (v_neqZ rfl rfl) rfl ?_
        refine l_val (v_pickN (decide_eq_false (fun h => h rfl)) rfl rfl) rfl ?_
        refine l_val (v_move rfl) rfl ?_
        refine l_gY rfl rfl rfl (decide_eq_false (fun h => h rfl)) ?_
        refine l_val (v_move rfl) rfl ?_
        refine l_gY rfl rfl rfl (decide_eq_false (fun h => h rfl)) ?_
        refine l_val (v_not rfl) rfl ?_
        refine l_val (v_pickN (decide_eq_false (fun h => h rfl)) rfl rfl) rfl ?_
        refine l_nil ?_
        refine a_normal ?_
        refine w_condN rfl rfl ?_
        refine w_skip ?_
        refine a_normal ?_
        refine w_seq ?_
        refine w_seq ?_
        refine w_region rfl ?_
        refine l_val (v_move rfl) rfl ?_
        refine l_val (v_lenS rfl) rfl ?_
        refine l_val (v_eql (j := 0) rfl rfl) rfl ?_
        refine l_nil ?_
        refine a_normal ?_
        refine w_condD rfl (fun hc => ?_) (fun hc => ?_)
        · skip
          refine w_seq ?_
          refine w_region rfl ?_
          refine l_val (v_assign rfl) rfl ?_
          refine l_nil ?_
          refine a_normal ?_
          refine w_ret ?_
          refine a_tret ?_
          exact a_ret (ts := [4]) rfl rfl rfl
        · skip
          refine w_skip ?_
          refine a_normal ?_
          refine w_seq ?_
          refine w_region rfl ?_
          refine l_val (v_move rfl) rfl ?_
          refine l_eff (e_call rfl (pdecode_spec hG q29 b29 o29 c29 _ _ hs29 inferInstance (by omega))) rfl ?_
          rintro _ _ ⟨q85, b85, o85, c85, s85, rs85, fs85, k85, at85, rfl, hs85, hc85, hm85, ho85, rfl, hr85⟩
          obtain ⟨hl85, hz85, z85, rfl⟩ := dec_sizes_any hr85
          refine l_val (v_move rfl) rfl ?_
          refine l_val (v_extract rfl rfl) rfl ?_
          refine l_val (v_extract rfl rfl) rfl ?_
          refine l_val (v_extract rfl rfl) rfl ?_
          refine l_val (v_assign rfl) rfl ?_
          refine l_val (v_assign rfl) rfl ?_
          refine l_nil ?_
          refine a_normal ?_
          refine w_seq ?_
          refine w_region rfl ?_
          refine l_val (v_move rfl) rfl ?_
          refine l_eff (e_call rfl (rdecode_spec q29 b29 o29 c29 _ _ hs29 inferInstance (by omega))) rfl ?_
          rintro _ _ ⟨q91, b91, o91, c91, s91, rs91, fs91, k91, at91, rfl, hs91, hc91, hm91, ho91, rfl, hr91⟩
          obtain ⟨rfl, rfl, rfl⟩ := dec_same hr85 hr91
          refine l_val (v_move rfl) rfl ?_
          refine l_val (v_extract rfl rfl) rfl ?_
          refine l_val (v_extract rfl rfl) rfl ?_
          refine l_val (v_extract rfl rfl) rfl ?_
          refine l_val (v_assign rfl) rfl ?_
          refine l_val (v_assign rfl) rfl ?_
          refine l_nil ?_
          refine a_normal ?_
          refine w_seq ?_
          refine w_region rfl ?_
          refine l_val (v_move rfl) rfl ?_
          refine l_val (v_move rfl) rfl ?_
          refine l_eff (e_call rfl (sameFrames_spec fs91 _ _ _ _ _ _ _ _ _ _ _ (IsFs.rd hs85 hm85 ho85).right.right (IsFs.rd hs91 hm91 ho91) (by omega) (fun f hf => by have := (hz85 f hf).1; omega))) rfl ?_
          rintro _ _ ⟨rfl, rfl⟩
          refine l_val (v_assign rfl) rfl ?_
          refine l_nil ?_
          refine a_normal ?_
          refine w_seq ?_
          refine w_region rfl ?_
          refine l_val (v_move rfl) rfl ?_
          refine l_val (v_move rfl) rfl ?_
          refine l_val (v_eql rfl rfl) rfl ?_
          refine l_val (v_move rfl) rfl ?_
          refine l_gY rfl rfl rfl (decide_eq_true rfl) ?_
          refine l_val (v_move rfl) rfl ?_
          refine l_val (v_pickY (decide_eq_true rfl) rfl rfl) rfl ?_
          refine l_val (v_assign rfl) rfl ?_
          refine l_nil ?_
          refine a_normal ?_
          refine w_ret ?_
          exact a_ret (ts := [4]) rfl rfl rfl
end Go.Proofs.YtgfdlpcdjklcoaaDoor
