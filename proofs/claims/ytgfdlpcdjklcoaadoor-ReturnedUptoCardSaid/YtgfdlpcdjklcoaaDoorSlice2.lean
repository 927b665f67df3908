/- Slices made, copied, turned into texts and back, over the small separation logic; no condition. -/
import Derived.Test.YtgfdlpcdjklcoaaDoorSlice
namespace Go.Proofs.YtgfdlpcdjklcoaaDoor
open Go Go.RowKit

def evsP (E : Env) : List (Nat × Operand) → Option (List (Nat × Value))
  | [] => some []
  | (i, x) :: r => match ev E x with
    | some v => match evsP E r with
      | some vs => some ((i, v) :: vs)
      | none => none
    | none => none
theorem evsP_eval {n : Nat} {E : Env} {a : Act} (h : EOk n E a) : ∀ {xs : List (Nat × Operand)} {vs : List (Nat × Value)}, evsP E xs = some vs → xs.map (fun (i, x) => (i, a.eval x)) = vs := by
  intro xs
  induction xs with
  | nil => intro vs e; simpa [evsP] using e
  | cons x r ih =>
    obtain ⟨i, x⟩ := x
    intro vs e
    simp only [evsP] at e
    cases hx : ev E x with
    | none => simp [hx] at e
    | some v =>
      cases hr : evsP E r with
      | none => simp [hx, hr] at e
      | some us =>
        simp only [hx, hr, Option.some.injEq] at e
        subst e
        simp [h.ev hx, ih hr]
def bstr (xs : List UInt8) : ByteArray := ⟨xs.toArray⟩
theorem bstr_toList (s : ByteArray) : bstr s.data.toList = s := by cases s; simp [bstr]
@[simp] theorem bstr_size (xs : List UInt8) : (bstr xs).size = xs.length := by simp [bstr, ByteArray.size]
theorem str_beq (s t : ByteArray) : (s.toList == t.toList) = decide (s = t) := by
  rw [ByteArray.toList_eq, ByteArray.toList_eq]
  by_cases h : s = t
  · subst h; simp
  · have : ¬ s.data = t.data := fun e => h (by cases s; cases t; simp_all)
    simp [h, this]
section
variable {P : Program} {B : World} {n : Nat} {E : Env} {D : Dfr} {H R : HP} {d : Option Tmp} {T T' ty : TypeId} {pos : String} {af : Array Edge} {g : Option (Nat × Bool)} {x y z : Operand} {α : Type} [Lay α]

theorem e_buildSlice {len sz e : Nat} {ps : List (Nat × Operand)} {vs : List (Nat × Value)} {zv : Value} {cs : List Value} [hT : TyOf P T (.slice e)] [hz : SzOf P e sz] [h0 : ZeroOf P e zv]
    (hx : evsP E ps = some vs) (hf : Instr.fill (fun i => some (i * sz, sz)) ((Array.range (len * sz)).map fun i => zv.cells[i % zv.cells.size]!) vs = some cs.toArray) (hb : Nat.ble (len * sz) 16777216 = true) (hp : Nat.blt 0 (len * sz) = true) :
    Eff P B n ⟨d, .buildSlice T len ps.toArray, ty, pos, af, g⟩ E D H (fun v H' => ∃ b, v = .slice (some ⟨b, 0, none⟩) len len ∧ H' = HP.pts b 0 cs * H) := by
  intro a w h1 _ h3 K Q hk
  have hb' : ¬ len * sz > 2 ^ 24 := by have := Nat.le_of_ble_eq_true hb; omega
  have hp' : ¬ len * sz = 0 := by have : 0 < len * sz := by simpa using hp
                                  omega
  have hm : (ps.toArray.map fun (i, x) => (i, a.eval x)).toList = vs := by
    rw [List.map_toArray]; exact evsP_eval h1 hx
  have hrun : (execOp a.eval ⟨d, .buildSlice T len ps.toArray, ty, pos, af, g⟩).run P w = .ok (.value (.slice (some ⟨w.heap.size, 0, none⟩) len len)) (w.alloc (.cells cs.toArray e)) := by
    simp only [execOp, Instr.buildSlice, Sem.run_bind, run_und hT.get, Result.andThen_ok, hz.get, hb', if_false, hp', h0.get, Sem.run_pure, hm, hf, newRow]
    rfl
  simp only [Oper.wp, hrun, Oper.upon]
  exact hk _ _ _ ⟨w.heap.size, rfl, rfl⟩ (h3.alloc cs.toArray e)
/-- a new slice without values, with room -/
theorem e_makeSlice0 {e by_ c : Nat} {zv : Value} {ik jk : IntKind} [hT : TyOf P T (.slice e)] [hz : SzOf P e (Lay.sz α)] [hi : InfoOf P e by_] [h0 : ZeroOf P e zv]
    (hx : ev E x = some (.int ik (0 : Nat))) (hy : ev E y = some (.int jk c)) (hb : c * by_ ≤ 140737488355328 ∧ c < 9223372036854775808) :
    Eff P B n ⟨d, .makeSlice T x y, ty, pos, af, g⟩ E D H (fun v H' => IsSl (α := α) H [] v H') := by
  intro a w h1 _ h3 K Q hk
  obtain ⟨inf, hinf, rfl⟩ := hi.get
  have w0 : IntKind.i64.wrap ((0 : Nat) : Int) = 0 := rfl
  have w1 : IntKind.i64.wrap (c : Int) = c := fit_i64 hb.2
  have hc0 : ¬ (c : Int) < 0 := by omega
  have hc1 : ¬ (281474976710656 : Int) < inf.bytes * c := by
    rw [← Int.natCast_mul, Nat.mul_comm]; omega
  let zs := (Array.range (c * Lay.sz α)).map fun i => zv.cells[i % zv.cells.size]!
  have hrun : ∃ cs : Array Value, cs.size = c * Lay.sz α ∧ (execOp a.eval ⟨d, .makeSlice T x y, ty, pos, af, g⟩).run P w = .ok (.value (.slice (some ⟨w.heap.size, 0, none⟩) 0 c)) (w.alloc (.cells cs e)) := by
    by_cases hn : c * Lay.sz α = 0
    · refine ⟨#[], by simp [hn], ?_⟩
      simp only [execOp, h1.ev hx, h1.ev hy, Instr.makeSlice, Sem.run_bind, run_und hT.get, Result.andThen_ok, asInt, asIntOf, Sem.run_pure, hinf, w0, w1, newRow]
      simp [hc0, hc1, hn, hz.get]
      have : Array.map (fun _ => (default : Value)) (Array.range 0) = #[] := by simp
      rw [this]
    · refine ⟨zs, by simp [zs], ?_⟩
      simp only [execOp, h1.ev hx, h1.ev hy, Instr.makeSlice, Sem.run_bind, run_und hT.get, Result.andThen_ok, asInt, asIntOf, Sem.run_pure, hinf, w0, w1, newRow]
      simp [hc0, hc1, hn, h0.get, zs, hz.get]
  obtain ⟨cs, hcs, hrun⟩ := hrun
  simp only [Oper.wp, hrun, Oper.upon]
  refine hk _ _ _ ⟨some ⟨w.heap.size, 0, none⟩, w.heap.size, 0, c, cs.toList, rfl, ⟨.inr rfl, Nat.zero_le _⟩, by simp [hcs], rfl⟩ ?_
  have := h3.alloc cs e
  simpa [arr, flat] using this
theorem e_str2bytes {e : TypeId} {s : ByteArray} [hT : TyOf P T .string] [hT2 : TyOf P T' (.slice e)] [hE : TyOf P e (.int .u8)] (hx : ev E x = some (.string s)) :
    Eff P B n ⟨d, .convert T T' x, ty, pos, af, g⟩ E D H (fun v H' => IsSl H s.data.toList v H') := by
  intro a w h1 _ h3 K Q hk
  have hrun : (execOp a.eval ⟨d, .convert T T' x, ty, pos, af, g⟩).run P w = .ok (.value (.slice (some ⟨w.heap.size, 0, none⟩) s.size (grownCap w s.size 0 e)))
      (w.drew.alloc (.cells (bytesRow s (grownCap w s.size 0 e)) e ((bytesRow s (grownCap w s.size 0 e)).size, (bytesRow s (grownCap w s.size 0 e)).size + 1))) := by
    simp only [execOp, h1.ev hx, Sem.run_bind, run_bytes_of_string w T T' e s hT.get hT2.get hE.get, Result.andThen_ok, Sem.run_pure]
  have hle : s.size ≤ grownCap w s.size 0 e := by simp [grownCap, Question.cut]
  have hsz : s.data.toList.length = s.size := by rw [Array.length_toList]; rfl
  simp only [Oper.wp, hrun, Oper.upon]
  refine hk _ _ _ ⟨some ⟨w.heap.size, 0, none⟩, w.heap.size, 0, grownCap w s.size 0 e, List.replicate (grownCap w s.size 0 e - s.size) (.int .u8 0), by rw [hsz], ⟨.inr rfl, by rw [hsz]; exact hle⟩, ?_, rfl⟩ ?_
  · rw [hsz, List.length_replicate, sz_u8]; omega
  · have := (show Sat B H w.drew from h3.drewN).allocM (bytesRow s (grownCap w s.size 0 e)) e (bytesRow s (grownCap w s.size 0 e)).size ((bytesRow s (grownCap w s.size 0 e)).size + 1) (.inr (Nat.le_refl _))
    have e1 : (bytesRow s (grownCap w s.size 0 e)).toList = flat s.data.toList ++ List.replicate (grownCap w s.size 0 e - s.size) (.int .u8 0) := by
      simp only [bytesRow, Array.toList_append, Array.toList_map, Array.toList_replicate, flat]
      congr 1
      induction s.data.toList with
      | nil => rfl
      | cons b l ih => simp only [List.map_cons, List.flatMap_cons, ih]; rfl
    rw [e1] at this
    exact this
theorem v_bytes2str {e b o c : Nat} {p : Option Addr} {xs : List UInt8} [hT : TyOf P T (.slice e)] [hT2 : TyOf P T' .string] [hE : TyOf P e (.int .u8)] (hx : ev E x = some (.slice p xs.length c))
    (hs : Sl p b o xs.length c) (hr : RdA B H b o xs) : Val P B n ⟨d, .convert T T' x, ty, pos, af, g⟩ E H (.string (bstr xs)) := by
  intro a w he hw
  simp only [execOp, he.ev hx, Sem.run_bind]
  rcases hs.1 with h1 | rfl
  · have hx0 : xs = [] := List.length_eq_zero_iff.1 (by have := hs.2; omega)
    subst hx0
    cases p with
    | none =>
      rw [run_convert_bytes_string w T T' e none _ c hT.get hE.get hT2.get]; rfl
    | some q =>
      rw [run_convert_bytes_back w T T' e q c [] hT.get hE.get hT2.get (fun j hj => by simp at hj)]; rfl
  · rw [run_convert_bytes_back w T T' e ⟨b, o, none⟩ c xs hT.get hE.get hT2.get (fun j hj => ?_)]
    · rfl
    · have := hr.get j 0 (u8 xs[j]) (by simp [List.getD, List.getElem?_eq_getElem hj]) hj w hw
      simp only [sz_u8, Nat.mul_one, Nat.add_zero] at this
      by_cases hj0 : j = 0
      · subst hj0; simpa [Addr.add] using this
      · simpa [Addr.add, hj0] using this
/-- copy over cells of one's own -/
theorem e_copy {sT xT e b o bb oo dl dc cc : Nat} {p pp : Option Addr} {ys : List α} {l : List Value} [hT : TyOf P sT (.slice e)] [hz : SzOf P e (Lay.sz α)]
    (hx : ev E x = some (.slice p dl dc)) (hs : Sl p b o dl dc) (hy : ev E y = some (.slice pp ys.length cc)) (hs2 : Sl pp bb oo ys.length cc) (hr : RdA B (HP.pts b o l * R) bb oo ys)
    (hl : dl * Lay.sz α ≤ l.length) :
    Eff P B n ⟨d, .call ⟨.builtin .copy, #[x, y], #[sT, xT]⟩, ty, pos, af, g⟩ E D (HP.pts b o l * R)
      (fun v H' => v = .int .i64 (min ys.length dl : Nat) ∧ H' = HP.pts b o (flat (ys.take (min ys.length dl)) ++ l.drop (min ys.length dl * Lay.sz α)) * R) := by
  intro a w h1 _ h3 K Q hk
  have hm : Nat.min ys.length dl = min ys.length dl := rfl
  have hlen : (ys.take (min ys.length dl)).length = min ys.length dl := by simp
  have hr' : RdA B (HP.pts b o l * R) bb oo (ys.take (min ys.length dl)) := by
    have := hr.sub 0 (min ys.length dl) (Nat.min_le_left ..)
    simpa using this
  have hf : (Builtin.firstCells (Lay.sz α) (min ys.length dl) (.slice pp ys.length cc)).run P w = .ok (flat (ys.take (min ys.length dl))).toArray w := by
    rcases hs2.1 with h4 | rfl
    · have hx0 : ys = [] := List.length_eq_zero_iff.1 (by have := hs2.2; omega)
      subst hx0
      cases pp <;> simp [Builtin.firstCells, flat, loadCells, loadCellsFrom]
    · simp only [Builtin.firstCells]
      have := hr'.run (P := P) h3
      rwa [hlen] at this
  have hw2 : ∃ w', ((match p with | some q => storeCells q (flat (ys.take (min ys.length dl))) | none => pure ()).run P w) = .ok () w' ∧
      Sat B (HP.pts b o (flat (ys.take (min ys.length dl)) ++ l.drop (min ys.length dl * Lay.sz α)) * R) w' := by
    rcases hs.1 with h4 | rfl
    · have hd0 : min ys.length dl = 0 := by have := hs.2; omega
      rw [hd0]
      refine ⟨w, ?_, by simpa [flat] using h3⟩
      cases p <;> simp [flat, storeCells]
    · have hcm := Nat.mul_le_mul_right (Lay.sz α) (Nat.min_le_right ys.length dl)
      obtain ⟨w', k1, k2⟩ := Sat.storesFrom (P := P) (flat (ys.take (min ys.length dl))) o 0 l R w (by rw [flat_length, hlen]; omega) (flat_one _) h3
      rw [flat_length, hlen] at k2
      exact ⟨w', k1, k2⟩
  obtain ⟨w', k1, k2⟩ := hw2
  have hrun : (execOp a.eval ⟨d, .call ⟨.builtin .copy, #[x, y], #[sT, xT]⟩, ty, pos, af, g⟩).run P w = .ok (.value (.int .i64 (min ys.length dl : Nat))) w' := by
    simp only [execOp, resolve, List.map_toArray, List.map_cons, List.map_nil, h1.ev hx, h1.ev hy, Sem.run_bind, Sem.run_pure, Result.andThen_ok, invoke, builtin]
    simp only [Builtin.copy_]
    simp [run_und hT.get, Builtin.lenOf, hm, hz.get, hf]
    cases p <;> simp_all [goInt]
  simp only [Oper.wp, hrun, Oper.upon]
  exact hk _ _ _ ⟨rfl, rfl⟩ k2
theorem v_eqS {s t : ByteArray} (hx : ev E x = some (.string s)) (hy : ev E y = some (.string t)) :
    Val P B n ⟨d, .binOp .eql T x y T', ty, pos, af, g⟩ E H (.bool (decide (s = t))) := by
  intro a w he _
  simp only [execOp, he.ev hx, he.ev hy, Sem.run_bind, binOp_string_eql, str_beq]; rfl
theorem v_neS {s t : ByteArray} (hx : ev E x = some (.string s)) (hy : ev E y = some (.string t)) :
    Val P B n ⟨d, .binOp .neq T x y T', ty, pos, af, g⟩ E H (.bool (decide (s ≠ t))) := by
  intro a w he _
  simp only [execOp, he.ev hx, he.ev hy, Sem.run_bind, binOp_string_neq, str_beq]
  have : (!decide (s = t)) = decide (s ≠ t) := by simp
  rw [this]; rfl
end
end Go.Proofs.YtgfdlpcdjklcoaaDoor
