/- Structs with parts of several cells, arrays of bytes compared, slices as arrays; no condition. -/
import Derived.Test.YtgfdlpcdjklcoaaDoorMore2
import Derived.Stop.BytesEq
namespace Go.Proofs.YtgfdlpcdjklcoaaDoor
open Go Go.RowKit
set_option linter.unusedVariables false
theorem flat_cell (xs : List UInt8) : flat xs = xs.map Extern.Stop.cell := by
  induction xs with
  | nil => rfl
  | cons x xs ih => show _ :: flat xs = _; rw [ih]; rfl
/-- cells written over others -/
theorem foldl_over : ∀ (c : List Value) (a b d : List Value) (k : Nat), b.length = c.length → k = 0 → (c.toArray.zipIdx.foldl (fun cs (c, j) => cs.setIfInBounds (a.length + j) c) (a ++ b ++ d).toArray) = (a ++ c ++ d).toArray := by
  intro c a b d k h _
  have h2 : ∀ (c a b d : List Value) (k m : Nat), b.length = c.length → a.length = m + k → ((c.zipIdx k).foldl (fun (cs : Array Value) (p : Value × Nat) => cs.setIfInBounds (m + p.2) p.1) (a ++ b ++ d).toArray) = (a ++ c ++ d).toArray := by
    intro c
    induction c with
    | nil => intro a b d k m h _; have : b = [] := List.length_eq_zero_iff.1 (by simpa using h); simp [this]
    | cons x c ih =>
      intro a b d k m h hm
      cases b with
      | nil => simp at h
      | cons y b =>
        simp only [List.zipIdx_cons, List.foldl_cons]
        have e : ((a ++ y :: b ++ d).toArray.setIfInBounds (m + k) x) = ((a ++ [x]) ++ b ++ d).toArray := by
          rw [← hm]
          apply Array.toList_inj.1
          simp
        rw [e, ih (a ++ [x]) b d (k + 1) m (by simpa using h) (by simp; omega)]
        simp
  have := h2 c a b d 0 a.length h rfl
  rw [← this]
  simp
def Fill (pl : Array (Nat × Nat)) : List Value → List (Nat × Value) → List Value → Prop
  | zs, [], cs => cs = zs
  | zs, (i, v) :: r, cs => ∃ a b d c, pl[i]? = some (a.length, c.length) ∧ zs = a ++ b ++ d ∧ b.length = c.length ∧ v.cells = c.toArray ∧ Fill pl (a ++ c ++ d) r cs
theorem fill_nil {pl : Array (Nat × Nat)} {zs : List Value} : Fill pl zs [] zs := rfl
theorem fill_cons {pl : Array (Nat × Nat)} {zs cs : List Value} {i : Nat} {v : Value} {r : List (Nat × Value)} (a b d c : List Value) (h1 : pl[i]? = some (a.length, c.length)) (h2 : zs = a ++ b ++ d) (h3 : b.length = c.length)
    (h4 : v.cells = c.toArray) (h : Fill pl (a ++ c ++ d) r cs) : Fill pl zs ((i, v) :: r) cs := ⟨a, b, d, c, h1, h2, h3, h4, h⟩
theorem Fill.run {pl : Array (Nat × Nat)} : ∀ {vs : List (Nat × Value)} {zs cs : List Value}, Fill pl zs vs cs → Instr.fill (pl[·]?) zs.toArray vs = some cs.toArray
  | [], zs, cs, h => by obtain rfl : cs = zs := h; rfl
  | (i, v) :: r, zs, cs, ⟨a, b, d, c, h1, h2, h3, h4, h⟩ => by
    subst h2
    simp only [Instr.fill, h1, h4]
    rw [if_neg (by simp; omega)]
    rw [foldl_over c a b d 0 h3 rfl]
    exact Fill.run h
section
variable {P : Program} {B : World} {n : Nat} {E : Env} {D : Dfr} {H : HP} {d : Option Tmp} {T T' ty : TypeId} {pos : String} {af : Array Edge} {g : Option (Nat × Bool)} {x y z : Operand}
/-- a struct's literal, its parts of any size -/
theorem v_mkF {pl : Array (Nat × Nat)} {zs cs : List Value} {ps : List (Nat × Operand)} {vs : List (Nat × Value)} [hT : StructPl P T pl] [hz : ZeroOf P T (.agg zs.toArray)]
    (hx : evsP E ps = some vs) (hf : Fill pl zs vs cs) : Val P B n ⟨d, .build T ps.toArray, ty, pos, af, g⟩ E H (.agg cs.toArray) := v_buildS hx hf.run
/-- arrays of bytes -/
theorem v_neA {len e : Nat} {xs ys : List UInt8} [hT : TyOf P T (.array len e)] [hE : TyOf P e (.int .u8)] [hz : SzOf P e 1] (hG : P.eqGuardType P.depth T = false)
    (hx : ev E x = some (.agg (flat xs).toArray)) (hy : ev E y = some (.agg (flat ys).toArray)) (h1 : xs.length = len) (h2 : ys.length = len) :
    Val P B n ⟨d, .binOp .neq T x y T', ty, pos, af, g⟩ E H (.bool (decide (xs ≠ ys))) := by
  intro a w he _
  rw [flat_cell] at hx hy
  have h3 := run_equalIn_bytes (P := P) w 9998 T e len hT.get hE.get hz.get xs ys h1 h2
  have h4 : (eqGuard .neq T x y (.agg (xs.map Extern.Stop.cell).toArray) (.agg (ys.map Extern.Stop.cell).toArray)).run P w = .ok () w := by
    simp [eqGuard, Sem.run_bind, run_program, hG]
  simp only [execOp, he.ev hx, he.ev hy, Sem.run_bind, h4, Result.andThen_ok, binOp, Op.equal, show Op.maxDepth = 9998 + 2 from rfl, h3, Sem.run_pure]
  congr 3
  by_cases h : xs = ys <;> simp [h]
theorem v_s2a {p : Option Addr} {b o k c len e : Nat} [hT : TyOf P T (.array len e)] (hx : ev E x = some (.slice p k c)) (hs : Sl p b o k c) (h0 : 0 < k) (hk : len ≤ k) :
    Val P B n ⟨d, .sliceToArrayPointer T x, ty, pos, af, g⟩ E H (.pointer (some ⟨b, o, none⟩)) := by
  intro a w he _
  obtain rfl := hs.1.resolve_left (by have := hs.2; omega)
  simp only [execOp, he.ev hx, Instr.arrayAt, Sem.run_bind, run_und hT.get, Result.andThen_ok]
  simp [show ¬ k < len by omega]
theorem v_loadR {α : Type} [Lay α] {b o k : Nat} {xs : List α} [hT : AggC P T k] (hx : ev E x = some (.pointer (some ⟨b, o, none⟩))) (hr : RdA B H b o xs) (hl : xs.length * Lay.sz α = k) :
    Val P B n ⟨d, .load T x, ty, pos, af, g⟩ E H (.agg (flat xs).toArray) := by
  intro a w he hw
  have h1 := hr.run (P := P) hw
  rw [hl] at h1
  simp [execOp, he.ev hx, Instr.loadAt, Instr.sureAddr, loadVar, hT.get, hT.size, h1]
end
end Go.Proofs.YtgfdlpcdjklcoaaDoor
