/- Stores into rows of records; no condition. -/
import Derived.Test.YtgfdlpcdjklcoaaDoorWireB
namespace Go.Proofs.YtgfdlpcdjklcoaaDoor
open Go Go.RowKit
set_option linter.unusedVariables false
theorem Sat.arrSet {P : Program} {B : World} {α : Type} [Lay α] {b o k : Nat} {xs : List α} {s : List Value} {R : HP} {w : World} (y : α) (hk : k < xs.length) (h : Sat B (arr b o xs s * R) w) :
    ∃ w', (storeCells ⟨b, o + k * Lay.sz α, none⟩ (Lay.enc y)).run P w = .ok () w' ∧ Sat B (arr b o (xs.set k y) s * R) w' := by
  have hd : xs.drop k = xs[k] :: xs.drop (k + 1) := List.drop_eq_getElem_cons hk
  have e1 : flat xs ++ s = flat (xs.take k) ++ (flat (xs.drop k) ++ s) := by rw [← List.append_assoc, ← flat_append, List.take_append_drop]
  have hl : (flat (xs.take k)).length = k * Lay.sz α := by rw [flat_length, List.length_take, Nat.min_eq_left (by omega)]
  have h2 : Sat B (HP.pts b (o + k * Lay.sz α + 0) (flat (xs.drop k) ++ s) * (HP.pts b o (flat (xs.take k)) * R)) w := by
    rw [HP.left_comm, ← HP.assoc, Nat.add_zero, ← hl, ← HP.pts_append, ← e1]; exact h
  have hle : (Lay.enc y).length ≤ (flat (xs.drop k) ++ s).length := by
    rw [List.length_append, flat_length, Lay.len, List.length_drop]
    have := Nat.mul_le_mul_right (Lay.sz α) (show 1 ≤ xs.length - k by omega)
    omega
  obtain ⟨w', h3, h4⟩ := Sat.storesFrom (P := P) (Lay.enc y) (o + k * Lay.sz α) 0 (flat (xs.drop k) ++ s) _ w hle (Lay.one y) h2
  refine ⟨w', h3, ?_⟩
  have e2 : (flat (xs.drop k) ++ s).drop (Lay.enc y).length = flat (xs.drop (k + 1)) ++ s := by
    rw [hd]
    show (Lay.enc xs[k] ++ flat (xs.drop (k + 1)) ++ s).drop _ = _
    rw [List.append_assoc, Lay.len, ← Lay.len xs[k], List.drop_left]
  rw [e2, HP.left_comm, ← HP.assoc, Nat.add_zero, ← hl, ← HP.pts_append] at h4
  have e3 : flat (xs.set k y) ++ s = flat (xs.take k) ++ (Lay.enc y ++ (flat (xs.drop (k + 1)) ++ s)) := by
    rw [List.set_eq_take_append_cons_drop, if_pos hk, flat_append]
    show _ ++ (Lay.enc y ++ flat (xs.drop (k + 1))) ++ s = _
    simp only [List.append_assoc]
  unfold arr
  rw [e3]
  exact h4
section
variable {P : Program} {B : World} {n : Nat} {E : Env} {D : Dfr} {H R : HP} {d : Option Tmp} {T T' ty : TypeId} {pos : String} {af : Array Edge} {g : Option (Nat × Bool)} {x y z : Operand}
/-- a record of a row is stored -/
theorem e_storeArr {α : Type} [Lay α] {b o k : Nat} {xs : List α} {s : List Value} (v : α) [hT : AggC P T (Lay.sz α)] (hx : ev E x = some (.pointer (some ⟨b, o + k * Lay.sz α, none⟩))) (hy : ev E y = some (.agg (Lay.enc v).toArray)) (hk : k < xs.length) :
    Eff P B n ⟨d, .store T x y, ty, pos, af, g⟩ E D (arr b o xs s * R) (fun v' H'' => v' = undef ∧ H'' = arr b o (xs.set k v) s * R) := by
  intro a w h1 _ h3 K Q hkk
  obtain ⟨w', hw1, hw2⟩ := Sat.arrSet (P := P) v hk h3
  have hl : (Lay.enc v).length = Lay.sz α := Lay.len v
  have hrun : (execOp a.eval ⟨d, .store T x y, ty, pos, af, g⟩).run P w = .ok .skip w' := by
    simp only [execOp, h1.ev hx, h1.ev hy, Instr.storeAt, Instr.sureAddr, Sem.run_bind, Sem.run_pure, Result.andThen_ok, storeVar, hT.size, Value.cells]
    simp [hl, hw1]
  simp only [Oper.wp, hrun, Oper.upon]
  exact hkk undef _ _ ⟨rfl, rfl⟩ hw2
end
end Go.Proofs.YtgfdlpcdjklcoaaDoor
