/- What one operation does to memory, over the small separation logic; no condition. -/
import Derived.Test.YtgfdlpcdjklcoaaDoorWp
namespace Go.Proofs.YtgfdlpcdjklcoaaDoor
open Go Go.RowKit

/-- whole rows of cells -/
class Row (H : HP) (b o : Nat) (l : outParam (List Value)) (R : outParam HP) : Prop where
  eq : H = HP.pts b o l * R
instance (b o : Nat) (l : List Value) : Row (HP.pts b o l) b o l HP.emp := ⟨(HP.mul_emp _).symm⟩
instance (priority := 2000) (C : HP) (b o : Nat) (l : List Value) : Row (HP.pts b o l * C) b o l C := ⟨rfl⟩
instance (A C R : HP) (b o : Nat) (l : List Value) [h : Row A b o l R] : Row (A * C) b o l (R * C) := ⟨by rw [h.eq, HP.assoc]⟩
instance (A C R : HP) (b o : Nat) (l : List Value) [h : Row C b o l R] : Row (A * C) b o l (A * R) := ⟨by rw [h.eq, HP.left_comm]⟩

theorem Sat.cells {B : World} {b o : Nat} {l : List Value} {R : HP} {w : World} (h : Sat B (HP.pts b o l * R) w) (j : Nat) (v : Value) (e : l[j]? = some v) :
    w.cell? ⟨b, o + j, none⟩ = some v := by
  obtain ⟨_, r, hr, hl⟩ := h.left
  refine hl.cell b (o + j) v ?_
  rw [show r = _ from hr]; simp [e]

/-- many stores -/
theorem Sat.storesFrom {P : Program} {B : World} {b : Nat} : ∀ (vs : List Value) (o i : Nat) (l : List Value) (R : HP) (w : World), vs.length ≤ l.length → (∀ v ∈ vs, v.oneCell' = true) →
    Sat B (HP.pts b (o + i) l * R) w →
    ∃ w', (storeCells ⟨b, o, none⟩ vs i).run P w = .ok () w' ∧ Sat B (HP.pts b (o + i) (vs ++ l.drop vs.length) * R) w'
  | [], o, i, l, R, w, _, _, h => ⟨w, rfl, by simpa using h⟩
  | v :: vs, o, i, [], R, w, hl, _, h => by simp at hl
  | v :: vs, o, i, u :: l, R, w, hl, hv, h => by
    have hU : Upd (HP.pts b (o + i) (u :: l) * R) b (o + i + 0) v (HP.pts b (o + i) (v :: l) * R) True := inferInstance
    obtain ⟨⟨u', hc⟩, hf, hs⟩ := Sat.store hU h trivial
    simp only [Nat.add_zero] at hc hf hs
    have ha : Addr.add ⟨b, o, none⟩ i = ⟨b, o + i, none⟩ := by by_cases hi : i = 0 <;> simp [Addr.add, hi]
    have hs' : Sat B (HP.pts b (o + (i + 1)) l * (HP.pts b (o + i) [v] * R)) (w.setCell ⟨b, o + i, none⟩ v) := by
      rw [show (v :: l) = [v] ++ l from rfl, HP.pts_append] at hs
      rw [HP.left_comm, ← HP.assoc]; exact hs
    obtain ⟨w', h1, h2⟩ := Sat.storesFrom vs o (i + 1) l _ _ (by simpa using hl) (fun x hx => hv x (by simp [hx])) hs'
    refine ⟨w', ?_, ?_⟩
    · simp only [storeCells, Sem.run_bind, ha]
      rw [run_store P w _ v _ (hv v (by simp))]
      simp only [hc, hf]
      exact h1
    · rw [show (v :: vs) ++ List.drop (v :: vs).length (u :: l) = [v] ++ (vs ++ l.drop vs.length) from rfl, HP.pts_append, HP.assoc, HP.left_comm]
      exact h2

section
variable {P : Program} {B : World} {n : Nat} {E : Env} {D : Dfr} {H : HP} {d : Option Tmp} {T T' ty : TypeId} {pos : String} {af : Array Edge} {g : Option (Nat × Bool)} {x y : Operand}

theorem e_store {b i : Nat} {v : Value} {H' : HP} {s : Prop} [hT : OneC P T] (hx : ev E x = some (.pointer (some ⟨b, i, none⟩))) (hy : ev E y = some v) (hv : v.oneCell' = true)
    [hU : Upd H b i v H' s] (hs : s) : Eff P B n ⟨d, .store T x y, ty, pos, af, g⟩ E D H (fun v H'' => v = undef ∧ H'' = H') := by
  intro a w h1 _ h3 K Q hk
  obtain ⟨⟨u, hc⟩, hf, hs'⟩ := Sat.store hU h3 hs
  have hcs : v.cells = #[v] := by cases v <;> first | rfl | cases hv
  have hrun : (execOp a.eval ⟨d, .store T x y, ty, pos, af, g⟩).run P w = .ok .skip (w.setCell ⟨b, i, none⟩ v) := by
    simp only [execOp, h1.ev hx, h1.ev hy, Instr.storeAt, Instr.sureAddr, Sem.run_bind, Sem.run_pure, Result.andThen_ok, storeVar, hT.size, hcs]
    simp [storeCells, Addr.add, run_store P w ⟨b, i, none⟩ v _ hv, hc, hf]
  simp only [Oper.wp, hrun, Oper.upon]
  exact hk undef H' _ ⟨rfl, rfl⟩ hs'
theorem e_storeA {b i k : Nat} {cs l : List Value} {R : HP} [hT : AggC P T k] (hx : ev E x = some (.pointer (some ⟨b, i, none⟩))) (hy : ev E y = some (.agg cs.toArray))
    (hl : cs.length = k ∧ l.length = k) (hv : ∀ v ∈ cs, v.oneCell' = true)
    [hU : Row H b i l R] : Eff P B n ⟨d, .store T x y, ty, pos, af, g⟩ E D H (fun v H'' => v = undef ∧ H'' = HP.pts b i cs * R) := by
  intro a w h1 _ h3 K Q hk
  rw [hU.eq] at h3
  obtain ⟨w', hw1, hw2⟩ := Sat.storesFrom (P := P) cs i 0 l R w (by omega) hv h3
  have hrun : (execOp a.eval ⟨d, .store T x y, ty, pos, af, g⟩).run P w = .ok .skip w' := by
    simp only [execOp, h1.ev hx, h1.ev hy, Instr.storeAt, Instr.sureAddr, Sem.run_bind, Sem.run_pure, Result.andThen_ok, storeVar, hT.size, Value.cells]
    simp [hl.1, hw1]
  simp only [Oper.wp, hrun, Oper.upon]
  refine hk undef _ _ ⟨rfl, rfl⟩ ?_
  rw [List.drop_eq_nil_of_le (by omega)] at hw2
  simpa using hw2
theorem e_alloc {z : Value} {l : List Value} [hz : ZeroOf P T z] (hl : z.cells.toList = l) :
    Eff P B n ⟨d, .alloc T, ty, pos, af, g⟩ E D H (fun v H' => ∃ b, v = .pointer (some ⟨b, 0, none⟩) ∧ H' = HP.pts b 0 l * H) := by
  intro a w _ _ h3 K Q hk
  have hrun : (execOp a.eval ⟨d, .alloc T, ty, pos, af, g⟩).run P w = .ok (.value (.pointer (some ⟨w.heap.size, 0, none⟩))) (w.alloc (.cells z.cells T)) := by
    simp [execOp, Instr.alloc, hz.get, newVar, newRow]
  simp only [Oper.wp, hrun, Oper.upon]
  exact hk _ _ _ ⟨w.heap.size, rfl, rfl⟩ (hl ▸ h3.alloc z.cells T)
theorem e_box {v : Value} {l : List Value} (hx : ev E x = some v) (hl : v.cells.toList = l) :
    Eff P B n ⟨d, .box T x, ty, pos, af, g⟩ E D H (fun v H' => ∃ b, v = .pointer (some ⟨b, 0, none⟩) ∧ H' = HP.pts b 0 l * H) := by
  intro a w h1 _ h3 K Q hk
  have hrun : (execOp a.eval ⟨d, .box T x, ty, pos, af, g⟩).run P w = .ok (.value (.pointer (some ⟨w.heap.size, 0, none⟩))) (w.alloc (.cells v.cells T)) := by
    simp [execOp, h1.ev hx, Instr.box, newVar, newRow]
  simp only [Oper.wp, hrun, Oper.upon]
  exact hk _ _ _ ⟨w.heap.size, rfl, rfl⟩ (hl ▸ h3.alloc v.cells T)
/-- a call of a function by its name -/
theorem e_call {f : FuncId} {xs : List Operand} {vs : List Value} {ats : Array TypeId} {Post : Value → HP → Prop} [hf : CallOk P f] (hx : evs E xs = some vs) (hs : Fn P B f vs H Post) :
    Eff P B n ⟨d, .call ⟨.value (.func f), xs.toArray, ats⟩, ty, pos, af, g⟩ E D H Post := by
  intro a w h1 _ h3 K Q hk
  have hrun : (execOp a.eval ⟨d, .call ⟨.value (.func f), xs.toArray, ats⟩, ty, pos, af, g⟩).run P w = .ok (.enter f vs.toArray) w := by
    simp only [execOp, resolve, List.map_toArray, evs_eval h1 hx, Act.eval, Deferred.ofValue, Sem.run_bind, Sem.run_pure, Result.andThen_ok, invoke]
    simp [hf.get]
  simp only [Oper.wp, hrun, Oper.upon]
  refine (hs w h3).mono ?_
  rintro e w' ⟨v, H', rfl, hp, hs'⟩
  exact hk v H' w' hp hs'
/-- a call of a function's value -/
theorem e_callV {f : FuncId} {t : Operand} {xs : List Operand} {vs us : List Value} {ats : Array TypeId} {Post : Value → HP → Prop} [hf : CallOk P f]
    (ht : ev E t = some (.func (.func f) #[] us.toArray)) (hx : evs E xs = some vs) (hs : Fn P B f (vs ++ us) H Post) :
    Eff P B n ⟨d, .call ⟨.value t, xs.toArray, ats⟩, ty, pos, af, g⟩ E D H Post := by
  intro a w h1 _ h3 K Q hk
  have hrun : (execOp a.eval ⟨d, .call ⟨.value t, xs.toArray, ats⟩, ty, pos, af, g⟩).run P w = .ok (.enter f (vs ++ us).toArray) w := by
    simp only [execOp, resolve, List.map_toArray, evs_eval h1 hx, h1.ev ht, Deferred.ofValue, Sem.run_bind, Sem.run_pure, Result.andThen_ok, invoke]
    simp [hf.get]
  simp only [Oper.wp, hrun, Oper.upon]
  refine (hs w h3).mono ?_
  rintro e w' ⟨v, H', rfl, hp, hs'⟩
  exact hk v H' w' hp hs'
theorem v_loadA {b i k : Nat} {l : List Value} {R : HP} [hT : AggC P T k] (hx : ev E x = some (.pointer (some ⟨b, i, none⟩))) [hr : Row H b i l R] (hl : l.length = k) :
    Val P B n ⟨d, .load T x, ty, pos, af, g⟩ E H (.agg l.toArray) := by
  intro a w he hw
  rw [hr.eq] at hw
  have h1 : (loadCells ⟨b, i, none⟩ k).run P w = .ok l.toArray w := by
    rw [← hl]
    refine run_loadCells_list w ⟨b, i, none⟩ l fun j v e => ?_
    have := hw.cells j v e
    by_cases hj : j = 0
    · subst hj; simpa [Addr.add] using this
    · simpa [Addr.add, hj] using this
  simp [execOp, he.ev hx, Instr.loadAt, Instr.sureAddr, loadVar, hT.get, hT.size, h1]
end
end Go.Proofs.YtgfdlpcdjklcoaaDoor
