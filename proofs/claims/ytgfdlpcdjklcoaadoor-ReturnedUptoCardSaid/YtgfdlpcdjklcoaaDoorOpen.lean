/- Rows of records that a call is handed, opened; no condition. -/
import Derived.Test.YtgfdlpcdjklcoaaDoorJoin
import Derived.Test.YtgfdlpcdjklcoaaDoorWireB
import Derived.Deep.Slices
namespace Go.Proofs.YtgfdlpcdjklcoaaDoor
open Go Go.RowKit
set_option linter.unusedVariables false
set_option maxRecDepth 20000
section
variable {H : Type} {enc : TypeId × Value → H}
/-! ### bulk -/
theorem bulk_one (d : DataW H) : 1 ≤ Rows.uptoBulk d := by
  cases d with
  | lit l => cases l <;> simp [Rows.uptoBulk]
  | nil => simp [Rows.uptoBulk]
  | ptr d => simp [Rows.uptoBulk]
  | slice elems spare => simp [Rows.uptoBulk]
  | agg parts => simp [Rows.uptoBulk]
  | iface t d => simp [Rows.uptoBulk]
  | map entries => simp [Rows.uptoBulk]
  | held h => simp [Rows.uptoBulk]
theorem bulk_len (l : List (DataW H)) : l.length ≤ Rows.uptoBulkAll l := by
  induction l with
  | nil => simp [Rows.uptoBulkAll]
  | cons x r ih => have := bulk_one x; simp only [Rows.uptoBulkAll, List.length_cons]; omega
theorem bulk_mem {d : DataW H} {l : List (DataW H)} (h : d ∈ l) : Rows.uptoBulk d ≤ Rows.uptoBulkAll l := by
  induction l with
  | nil => cases h
  | cons x r ih =>
    simp only [Rows.uptoBulkAll]
    rcases List.mem_cons.1 h with rfl | e
    · omega
    · have := ih e; omega
/-! ### rows -/
theorem rda_base {α : Type} [Lay α] {W : World} {H' : HP} {b o : Nat} {xs : List α} (h : ∀ i f v, (Lay.enc (xs.getD i Lay.dflt))[f]? = some v → i < xs.length → W.cell? ⟨b, o + i * Lay.sz α + f, none⟩ = some v) : RdA W H' b o xs :=
  ⟨fun i f v e hi w hw => (rd_base (h i f v e hi)).get w hw trivial⟩
instance : Inhabited RF := ⟨Lay.dflt⟩
instance : Inhabited Rng := ⟨⟨0, 0⟩⟩
theorem getD_map {α : Type} [Lay α] (X : Nat → α) {len i : Nat} (hi : i < len) : ((List.range len).map X).getD i Lay.dflt = X i := by
  simp [List.getD, List.getElem?_map, List.getElem?_range hi]
theorem open_recs {P : Program} {W : World} {α : Type} [Lay α] [Inhabited α] {t e fuel : Nat} {cs : List Value} {x : DataW H × List MemPlace} (Q : α → DataW H → Prop) (ht : P.underlying t = some (.slice e)) (hc : P.cellsOf e = Lay.sz α) (hsz : 0 < Lay.sz α)
    (hopen : ∀ n cs' y, DataW.trod enc P W 0 (fun _ => true) true n e cs' = some y → ∃ a : α, cs' = Lay.enc a ∧ Q a y.1) (h : DataW.trod enc P W 0 (fun _ => true) true fuel t cs = some x) :
    ∃ (p : Option Addr) (b o c len : Nat) (X : Nat → α), cs = [.slice p len c] ∧ Sl p b o len c ∧ (∀ H', RdA W H' b o ((List.range len).map X)) ∧
      ((len = 0 ∧ x.1 = .nil) ∨ ∃ (D : Nat → DataW H) (sp : List (DataW H)), x.1 = .slice ((List.range len).map D) sp ∧ ∀ i, i < len → Q (X i) (D i)) := by
  rcases Go.Deep.open_slice ht h with ⟨rfl, rfl⟩ | ⟨a, len, cap, m, n, D, Pl, rfl, hb, hl, hm, hmm, rfl, hx⟩
  · exact ⟨none, 0, 0, 0, 0, fun _ => default, rfl, ⟨.inl rfl, Nat.le_refl _⟩, fun H' => rda_base (fun i f v _ hi => by simp at hi), .inl ⟨rfl, rfl⟩⟩
  · obtain rfl : m = cap := by simpa using hmm
    obtain ⟨X, hX⟩ := Go.Deep.choose_lt (α := α) (n := m) (p := fun i a' => W.cells? 0 (a.add (i * Lay.sz α)) (Lay.sz α) = some (Lay.enc a') ∧ Q a' (D i)) (fun i hi => by
      obtain ⟨cs', h1, h2⟩ := hx i hi
      obtain ⟨a', e1, e2⟩ := hopen n cs' _ h2
      rw [hc] at h1
      exact ⟨a', by rw [h1, e1], e2⟩)
    have hcell : ∀ i f v, i < m → (Lay.enc (X i))[f]? = some v → W.cell? (a.add (i * Lay.sz α + f)) = some v := by
      intro i f v hi hv
      obtain ⟨_, _, h3⟩ := World.cells?_some (hX i hi).1
      have hf : f < Lay.sz α := by
        have := (List.getElem?_eq_some_iff.1 hv).1
        rwa [Lay.len] at this
      rw [← Go.Deep.add_add, h3 f hf, hv]
    have hspot : 0 < m → a.spot = none := by
      intro h0
      have h1 : 0 < (Lay.enc (X 0)).length := by rw [Lay.len]; exact hsz
      have h2 := hcell 0 0 ((Lay.enc (X 0))[0]) h0 (List.getElem?_eq_getElem h1)
      simp only [Nat.zero_mul, Nat.zero_add, Addr.add, if_true] at h2
      unfold World.cell? at h2
      split at h2
      · split at h2
        · cases h2
        · rename_i hs
          cases hsp : a.spot with
          | none => rfl
          | some z => rw [hsp] at hs; exact absurd rfl hs
      · cases h2
    refine ⟨some a, a.block, a.off, m, len, X, rfl, ⟨?_, hl⟩, fun H' => rda_base fun i f v hv hi => ?_, .inr ⟨D, _, rfl, fun i hi => (hX i (by omega)).2⟩⟩
    · rcases Nat.eq_zero_or_pos m with h0 | h0
      · exact .inl h0
      · refine .inr ?_
        have := hspot h0
        obtain ⟨bk, of, sp⟩ := a
        obtain rfl : sp = none := this
        rfl
    · rw [List.length_map, List.length_range] at hi
      rw [getD_map X hi] at hv
      have := hcell i f v (by omega) hv
      have hs := hspot (by omega)
      obtain ⟨bk, of, sp⟩ := a
      obtain rfl : sp = none := hs
      have e : (⟨bk, of, none⟩ : Addr).add (i * Lay.sz α + f) = ⟨bk, of + i * Lay.sz α + f, none⟩ := by
        unfold Addr.add
        split
        · congr 1; omega
        · show (⟨bk, of + (i * Lay.sz α + f), none⟩ : Addr) = _; congr 1; omega
      rwa [e] at this
theorem uN_toNat {i : Int} (h : 0 ≤ i) : uN i.toNat = .int .u64 i := by show Value.int .u64 ((i.toNat : Nat) : Int) = _; rw [Int.toNat_of_nonneg h]
theorem open_rng {W : World} {n : Nat} {cs : List Value} {y : DataW H × List MemPlace} (h : DataW.trod enc Tryd.prog W 0 (fun _ => true) true n 62 cs = some y) : ∃ a : Rng, cs = Lay.enc a ∧ True := by
  obtain ⟨xs, k, rfl, rfl, hcl, hxl, hf⟩ := DataW.trod_struct Tryd.underlying62 h
  have c64 : Tryd.prog.cellsOf 24 = 1 := by kernel_rfl
  have ct : Tryd.prog.cellsOf 62 = 2 := by kernel_rfl
  rw [ct] at hcl
  match xs, hxl, cs, hcl with
  | [y0, y1], _, [v0, v1], _ =>
    have g0 := hf 0 _ rfl
    have g1 := hf 1 _ rfl
    simp [c64] at g0 g1
    obtain ⟨i0, e0, _, w0⟩ := DataW.trod_int Tryd.underlying24 g0
    obtain ⟨i1, e1, _, w1⟩ := DataW.trod_int Tryd.underlying24 g1
    have b0 : 0 ≤ i0 ∧ i0 ≤ 18446744073709551615 := by simpa [Lit.wf, IntKind.min, IntKind.max, IntKind.bits, IntKind.signed] using w0
    have b1 : 0 ≤ i1 ∧ i1 ≤ 18446744073709551615 := by simpa [Lit.wf, IntKind.min, IntKind.max, IntKind.bits, IntKind.signed] using w1
    refine ⟨⟨i0.toNat, i1.toNat⟩, ?_, trivial⟩
    simp only [List.cons.injEq, and_true] at e0 e1
    rw [e0, e1]
    show _ = [uN i0.toNat, uN i1.toNat]
    rw [uN_toNat b0.1, uN_toNat b1.1]
def FrmQ (W : World) (r : RF) (d : DataW H) : Prop := r.ok ∧ (∀ H', RdA W H' r.b r.o r.f.ranges) ∧ r.f.ranges.length + r.f.data.size + 8 ≤ Rows.uptoBulk d
theorem open_frm {W : World} {n : Nat} {cs : List Value} {y : DataW H × List MemPlace} (h : DataW.trod enc Tryd.prog W 0 (fun _ => true) true n 46 cs = some y) : ∃ r : RF, cs = Lay.enc r ∧ FrmQ W r y.1 := by
  obtain ⟨xs, k, rfl, rfl, hcl, hxl, hf⟩ := DataW.trod_struct Tryd.underlying46 h
  have c1 : Tryd.prog.cellsOf 24 = 1 := by kernel_rfl
  have c2 : Tryd.prog.cellsOf 3 = 1 := by kernel_rfl
  have c3 : Tryd.prog.cellsOf 4 = 1 := by kernel_rfl
  have c4 : Tryd.prog.cellsOf 9 = 1 := by kernel_rfl
  have c5 : Tryd.prog.cellsOf 44 = 1 := by kernel_rfl
  have ct : Tryd.prog.cellsOf 46 = 7 := by kernel_rfl
  rw [ct] at hcl
  match xs, hxl, cs, hcl with
  | [y0, y1, y2, y3, y4, y5, y6], _, [v0, v1, v2, v3, v4, v5, v6], _ =>
    have g0 := hf 0 _ rfl
    have g1 := hf 1 _ rfl
    have g2 := hf 2 _ rfl
    have g3 := hf 3 _ rfl
    have g4 := hf 4 _ rfl
    have g5 := hf 5 _ rfl
    have g6 := hf 6 _ rfl
    simp [c1, c2, c3, c4, c5] at g0 g1 g2 g3 g4 g5 g6
    obtain ⟨i0, e0, z0, w0⟩ := DataW.trod_int Tryd.underlying3 g0
    obtain ⟨i1, e1, z1, w1⟩ := DataW.trod_int Tryd.underlying3 g1
    obtain ⟨i2, e2, z2, w2⟩ := DataW.trod_int Tryd.underlying24 g2
    obtain ⟨i3, e3, z3, w3⟩ := DataW.trod_int Tryd.underlying24 g3
    obtain ⟨f4, e4, z4⟩ := DataW.trod_bool Tryd.underlying4 g4
    obtain ⟨s5, e5, z5, w5⟩ := DataW.trod_string Tryd.underlying9 g5
    obtain ⟨p, b, o, c, len, X, e6, hsl, hrd, hq⟩ := open_recs (α := Rng) (fun _ _ => True) Tryd.underlying44 (by kernel_rfl) (by show 0 < 2; decide) (fun n cs' y hy => open_rng hy) g6
    have b2 : 0 ≤ i2 ∧ i2 ≤ 18446744073709551615 := by simpa [Lit.wf, IntKind.min, IntKind.max, IntKind.bits, IntKind.signed] using w2
    have b3 : 0 ≤ i3 ∧ i3 ≤ 18446744073709551615 := by simpa [Lit.wf, IntKind.min, IntKind.max, IntKind.bits, IntKind.signed] using w3
    simp only [List.cons.injEq, and_true] at e0 e1 e2 e3 e4 e5 e6
    have hl : ((List.range len).map X).length = len := by rw [List.length_map, List.length_range]
    refine ⟨⟨⟨i0, i1, i2.toNat, i3.toNat, f4, s5, (List.range len).map X⟩, p, b, o, c, []⟩, ?_, ?_, hrd, ?_⟩
    · rw [e0, e1, e2, e3, e4, e5, e6]
      show _ = [.int .i64 i0, .int .i64 i1, uN i2.toNat, uN i3.toNat, .bool f4, .string s5, .slice p ((List.range len).map X).length c]
      rw [hl, uN_toNat b2.1, uN_toNat b3.1]
    · show Sl p b o ((List.range len).map X).length c
      rw [hl]; exact hsl
    · show ((List.range len).map X).length + s5.size + 8 ≤ Rows.uptoBulk (DataW.agg [y0.1, y1.1, y2.1, y3.1, y4.1, y5.1, y6.1])
      rw [hl]
      have h0 := bulk_one y0.1
      have h1 := bulk_one y1.1
      have h2 := bulk_one y2.1
      have h3 := bulk_one y3.1
      have h4 := bulk_one y4.1
      have h5 : Rows.uptoBulk y5.1 = s5.size + 1 := by
        rw [z5]
        show Rows.uptoBulk (DataW.lit (H := H) (.string s5.data.toList)) = _
        simp [Rows.uptoBulk]
      have h6 : len + 1 ≤ Rows.uptoBulk y6.1 := by
        rcases hq with ⟨rfl, e⟩ | ⟨D, sp, e, _⟩
        · exact bulk_one _
        · rw [e]
          have := bulk_len ((List.range len).map D)
          rw [List.length_map, List.length_range] at this
          simp only [Rows.uptoBulk]; omega
      simp only [Rows.uptoBulk, Rows.uptoBulkAll]
      omega
theorem encF_length (f : Frm) : (encF f).length ≤ 64 + 16 * f.ranges.length + f.data.size := by
  have hd : f.data.data.toList.length = f.data.size := by rw [Array.length_toList]; rfl
  have v1 := vint_length f.stream.toNat
  have v2 := vint_length f.code
  have v3 := vint_length f.offset
  have v4 := vint_length f.data.size
  unfold encF
  split
  · simp; omega
  split
  · simp; omega
  split
  · have h1 := vint_length (rg f.ranges 0).hi
    have h2 := vint_length (f.ranges.length - 1)
    have h3 := vint_length ((rg f.ranges 0).hi - (rg f.ranges 0).lo)
    have h4 := encRs_length f.ranges (f.ranges.length - 1)
    simp only [encA, List.length_append, List.length_singleton]
    omega
  split
  · simp only [List.length_append, List.length_singleton]; omega
  split
  · simp only [List.length_append, List.length_singleton, hd]; omega
  · simp only [List.length_append, List.length_singleton]; omega
theorem encAll_bulk {W : World} (X : Nat → RF) (D : Nat → DataW H) : ∀ l : List Nat, (∀ i ∈ l, FrmQ W (X i) (D i)) → (encAll ((l.map X).map (·.f))).length ≤ 64 * Rows.uptoBulkAll (l.map D)
  | [], _ => Nat.zero_le _
  | i :: l, h => by
    have h1 := (h i (by simp)).2.2
    have h2 := encAll_bulk X D l (fun j hj => h j (by simp [hj]))
    have h3 := encF_length (X i).f
    simp only [List.map_cons, encAll, List.flatMap_cons, List.length_append, Rows.uptoBulkAll]
    simp only [encAll] at h2
    omega
theorem okWide_sl {P : Program} {W : World} {r : Reach} {base : Nat} {t e : TypeId} {v : Value} (ht : P.underlying t = some (.slice e)) (h : Value.okWide P W r base t v) : ∃ p k c, v = .slice p k c := by
  simp only [Value.okWide, ht, Cell.okWide] at h
  cases v <;> simp [Cell.ok, ht] at h
  exact ⟨_, _, _, rfl⟩
/-- a list of frames that a call is handed -/
theorem open_frms {W : World} {v : Value} {d : DataW H} {ps : List MemPlace} (h : DataW.Trod enc Tryd.prog W 0 (fun _ => true) true 37 v d ps) (hv : ∃ p k c, v = .slice p k c) :
    ∃ (p : Option Addr) (b o c : Nat) (rs : List RF), v = .slice p rs.length c ∧ (∀ H', RdFs W H' p c (rs.map (·.f)) b o rs) ∧ rs.length + 1 ≤ Rows.uptoBulk d ∧ (∀ r ∈ rs, r.ok ∧ r.f.ranges.length + r.f.data.size + 8 ≤ Rows.uptoBulk d) ∧ (encAll (rs.map (·.f))).length ≤ 64 * Rows.uptoBulk d := by
  obtain ⟨fuel, hf⟩ := h
  obtain ⟨p0, k0, c0, rfl⟩ := hv
  obtain ⟨p, b, o, c, len, X, e, hsl, hrd, hq⟩ := open_recs (α := RF) (FrmQ W) Tryd.underlying37 (by kernel_rfl) (by show 0 < 7; decide) (fun n cs' y hy => open_frm hy) hf
  have e' : Value.slice p0 k0 c0 = .slice p len c := by simpa [Value.cells] using e
  have hl : ((List.range len).map X).length = len := by rw [List.length_map, List.length_range]
  have hQ : ∀ i, i < len → (X i).ok ∧ (∀ H', RdA W H' (X i).b (X i).o (X i).f.ranges) ∧ (X i).f.ranges.length + (X i).f.data.size + 8 ≤ Rows.uptoBulk d := by
    intro i hi
    rcases hq with ⟨rfl, _⟩ | ⟨D, sp, e, hQ⟩
    · omega
    · have h1 := hQ i hi
      have h2 : Rows.uptoBulk (D i) ≤ Rows.uptoBulkAll ((List.range len).map D) := bulk_mem (List.mem_map.2 ⟨i, List.mem_range.2 hi, rfl⟩)
      have h3 : Rows.uptoBulkAll ((List.range len).map D) ≤ Rows.uptoBulk d := by
        rw [show d = _ from e]; simp only [Rows.uptoBulk]; omega
      exact ⟨h1.1, h1.2.1, by have := h1.2.2; omega⟩
  have hmem : ∀ r ∈ (List.range len).map X, r.ok ∧ (∀ H', RdA W H' r.b r.o r.f.ranges) ∧ r.f.ranges.length + r.f.data.size + 8 ≤ Rows.uptoBulk d := by
    intro r hr
    obtain ⟨i, hi, rfl⟩ := List.mem_map.1 hr
    exact hQ i (List.mem_range.1 hi)
  refine ⟨p, b, o, c, (List.range len).map X, by rw [hl]; exact e', fun H' => ⟨by rw [List.length_map, hl]; exact hsl, hrd H', rfl, fun r hr => (hmem r hr).1, fun r hr => (hmem r hr).2.1 H'⟩, ?_, fun r hr => ⟨(hmem r hr).1, (hmem r hr).2.2⟩, ?_⟩
  · rw [hl]
    rcases hq with ⟨rfl, _⟩ | ⟨D, sp, e, hQ⟩
    · exact bulk_one d
    · have := bulk_len ((List.range len).map D)
      rw [List.length_map, List.length_range] at this
      rw [show d = _ from e]; simp only [Rows.uptoBulk]; omega
  · rcases hq with ⟨rfl, _⟩ | ⟨D, sp, e, hQ⟩
    · exact Nat.zero_le _
    · have h1 := encAll_bulk X D (List.range len) (fun i hi => hQ i (List.mem_range.1 hi))
      have h3 : Rows.uptoBulkAll ((List.range len).map D) ≤ Rows.uptoBulk d := by
        rw [show d = _ from e]; simp only [Rows.uptoBulk]; omega
      omega
end
end Go.Proofs.YtgfdlpcdjklcoaaDoor
