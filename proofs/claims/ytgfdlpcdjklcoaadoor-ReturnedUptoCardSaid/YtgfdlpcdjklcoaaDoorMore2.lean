/- Guards, picks and known conditions, over the small separation logic; no condition. -/
import Derived.Test.YtgfdlpcdjklcoaaDoorRange
namespace Go.Proofs.YtgfdlpcdjklcoaaDoor
open Go Go.RowKit
set_option linter.unusedVariables false
section
variable {P : Program} {B : World} {n : Nat} {E : Env} {D : Dfr} {H R : HP} {ops : Array Oper} {Q : Exit → Act → World → Prop} {rest : List Oper} {fuel last : Nat} {ls : Array Bool}
  {op : Op} {T ty : TypeId} {pos : String} {af : Array Edge} {d : Option Tmp} {g : Option (Nat × Bool)} {x y : Operand}
theorem l_gY {t j tj : Nat} {b want : Bool} (hj : (ops[j]?).bind (·.dst) = some tj) (hb : lk E tj = some (.bool b)) (ht : Nat.blt t n = true) (hw : b = want)
    (yes : WL P B ops Q (⟨some t, op, ty, pos, af, none⟩ :: rest) n E D H) : WL P B ops Q (⟨some t, op, ty, pos, af, some (j, want)⟩ :: rest) n E D H :=
  l_guard hj hb ht (fun _ => yes) (fun h => by subst hw; cases b <;> cases h)
theorem l_gN {t j tj : Nat} {b want : Bool} (hj : (ops[j]?).bind (·.dst) = some tj) (hb : lk E tj = some (.bool b)) (ht : Nat.blt t n = true) (hw : b = !want)
    (no : WL P B ops Q rest n ((t, undef) :: E) D H) : WL P B ops Q (⟨some t, op, ty, pos, af, some (j, want)⟩ :: rest) n E D H :=
  l_guard hj hb ht (fun h => by subst h; cases b <;> cases hw) (fun _ => no)
theorem l_case {p : Prop} [Decidable p] {l : List Oper} (tj : Nat) (hb : lk E tj = some (.bool (decide p))) (h1 : p → WL P B ops Q l n E D H) (h2 : ¬ p → WL P B ops Q l n E D H) : WL P B ops Q l n E D H :=
  if h : p then h1 h else h2 h
theorem l_caseB {b : Bool} {l : List Oper} (tj : Nat) (hb : lk E tj = some (.bool b)) (h1 : b = true → WL P B ops Q l n E D H) (h2 : b = false → WL P B ops Q l n E D H) : WL P B ops Q l n E D H := by
  cases b
  · exact h2 rfl
  · exact h1 rfl
theorem s_case {p : Prop} [Decidable p] (tj : Nat) (hb : lk E tj = some (.bool (decide p))) (h1 : p → WA P B ops Q R last fuel ls n E D H) (h2 : ¬ p → WA P B ops Q R last fuel ls n E D H) : WA P B ops Q R last fuel ls n E D H :=
  if h : p then h1 h else h2 h
theorem s_caseB {b : Bool} (tj : Nat) (hb : lk E tj = some (.bool b)) (h1 : b = true → WA P B ops Q R last fuel ls n E D H) (h2 : b = false → WA P B ops Q R last fuel ls n E D H) : WA P B ops Q R last fuel ls n E D H := by
  cases b
  · exact h2 rfl
  · exact h1 rfl
theorem s_gY (i : Nat) {t j tj : Nat} {v : Value} {b want : Bool} (hi : ops[i]? = some ⟨some t, op, ty, pos, af, some (j, want)⟩) (hk : takes ops ls last i = true) [hq : PQ Q] [hE : Ent B H R] (ht : Nat.blt t n = true)
    (hj : (ops[j]?).bind (·.dst) = some tj) (hb : lk E tj = some (.bool b)) (hw : b = want)
    (hv : Val P B n ⟨some t, op, ty, pos, af, none⟩ E R v) (next : WA P B ops Q R last fuel (ls.setIfInBounds i true) n ((t, v) :: E) D H) :
    WA P B ops Q R last (fuel + 1) ls n E D H := by
  subst hw; exact s_takeG i hi hk ht hj hb hv next
theorem s_gN (i : Nat) {t j tj : Nat} {b want : Bool} (hi : ops[i]? = some ⟨some t, op, ty, pos, af, some (j, want)⟩) (hk : takes ops ls last i = true) [hq : PQ Q] [hE : Ent B H R] (ht : Nat.blt t n = true)
    (hj : (ops[j]?).bind (·.dst) = some tj) (hb : lk E tj = some (.bool b)) (hw : b = !want)
    (next : WA P B ops Q R last fuel (ls.setIfInBounds i true) n ((t, undef) :: E) D H) :
    WA P B ops Q R last (fuel + 1) ls n E D H := s_skip i hi hk ht hj hb hw next
theorem s_effG (i : Nat) {t j tj : Nat} {b want : Bool} {Post : Value → HP → Prop} (hr : Region.ready .any ops ls = [i]) (hi : ops[i]? = some ⟨some t, op, ty, pos, af, some (j, want)⟩) (ht : Nat.blt t n = true)
    (hj : (ops[j]?).bind (·.dst) = some tj) (hb : lk E tj = some (.bool b)) (hw : b = want)
    (he : Eff P B n ⟨some t, op, ty, pos, af, some (j, want)⟩ E D H Post)
    (next : ∀ v H', Post v H' → (last ≤ i ∨ Ent B H' R) ∧ WA P B ops Q R last fuel (ls.setIfInBounds i true) n ((t, v) :: E) D H') :
    WA P B ops Q R last (fuel + 1) ls n E D H := by
  intro a w h1 h2 h3
  have hy : yielded ops a.tmps j = some b := by
    have := h1.2 _ _ hb
    simp [yielded, hj, this]
  refine ⟨(fun h0 => by rw [hr] at h0; cases h0), fun k hk => ?_⟩
  rw [hr] at hk
  obtain rfl := List.mem_singleton.1 hk
  unfold wpOp
  rw [hi]
  simp only [Region.wanted, hy, hw, beq_self_eq_true, if_true]
  refine .inl (he a w h1 h2 h3 _ _ fun v H' w' hp hs => ?_)
  obtain ⟨n1, n2⟩ := next v H' hp
  exact ⟨n1.imp id (fun h => h.get w' hs), n2 _ w' (h1.put (by simpa using ht) v) (by simp [Act.put, h2]) hs⟩
theorem v_pickY {c : Operand} {b : Bool} {u : Value} (hw : b = true) (hc : ev E c = some (.bool b)) (hx : ev E x = some u) :
    Val P B n ⟨d, .pick c x y, ty, pos, af, g⟩ E H u := by subst hw; exact v_pickT hc hx
theorem v_pickN {c : Operand} {b : Bool} {u : Value} (hw : b = false) (hc : ev E c = some (.bool b)) (hy : ev E y = some u) :
    Val P B n ⟨d, .pick c x y, ty, pos, af, g⟩ E H u := by subst hw; exact v_pickF hc hy
theorem v_notD {p : Prop} [Decidable p] (h : ev E x = some (.bool (decide p))) : Val P B n ⟨d, .unOp .not T x, ty, pos, af, g⟩ E H (.bool (decide (¬ p))) := by
  have := v_not (P := P) (B := B) (n := n) (H := H) (d := d) (T := T) (ty := ty) (pos := pos) (af := af) (g := g) h
  rwa [show (!decide p) = decide (¬ p) by simp] at this
theorem w_condY {t : Operand} {u v : Code} {b : Bool} (hb : ev E t = some (.bool b)) (hw : b = true) (h : WP P B u Q n E D H) : WP P B (.cond t u v) Q n E D H := by subst hw; exact w_cond hb (fun _ => h) (fun h => by cases h)
theorem w_condN {t : Operand} {u v : Code} {b : Bool} (hb : ev E t = some (.bool b)) (hw : b = false) (h : WP P B v Q n E D H) : WP P B (.cond t u v) Q n E D H := by subst hw; exact w_cond hb (fun h => by cases h) (fun _ => h)
end

/-! ### results that lie in cells -/
section
variable {P : Program} {B : World} {n : Nat} {E : Env} {H : HP}
def RvOk (P : Program) (B : World) (n : Nat) (E : Env) (H : HP) (rv : ResultVar) (v : Value) : Prop :=
  ∀ a w, EOk n E a → Sat B H w → (match rv with
    | .tmp t => (pure (a.tmps.getD t undef) : Sem Value)
    | .cell c t => do loadVar t (← asAddr (a.tmps.getD c undef))).run P w = .ok v w
theorem rv_tmp {t : Nat} {v : Value} (h : ev E (.tmp t) = some v) : RvOk P B n E H (.tmp t) v := by
  intro a w h1 _
  have := h1.ev h
  show (pure (a.tmps.getD t undef) : Sem Value).run P w = _
  rw [Sem.run_pure]; congr 1
theorem rv_cellA {c t b k : Nat} {l : List Value} {R : HP} [hT : AggC P t k] (h : ev E (.tmp c) = some (.pointer (some ⟨b, 0, none⟩))) [hr : Row H b 0 l R] (hl : l.length = k) : RvOk P B n E H (.cell c t) (.agg l.toArray) := by
  intro a w h1 hw
  have e := h1.ev h
  have e2 : a.tmps.getD c undef = .pointer (some ⟨b, 0, none⟩) := e
  rw [hr.eq] at hw
  have h1 : (loadCells ⟨b, 0, none⟩ k).run P w = .ok l.toArray w := by
    rw [← hl]
    refine run_loadCells_list w ⟨b, 0, none⟩ l fun j v e => ?_
    have := hw.cells j v e
    by_cases hj : j = 0
    · subst hj; simpa [Addr.add] using this
    · simpa [Addr.add, hj] using this
  simp [e2, asAddr, loadVar, hT.get, hT.size, h1]
theorem rv_cell {c t b : Nat} {v : Value} {s : Prop} [hT : OneC P t] (h : ev E (.tmp c) = some (.pointer (some ⟨b, 0, none⟩))) [hr : Rd B H b 0 v s] (hs : s) : RvOk P B n E H (.cell c t) v := by
  intro a w h1 hw
  have e := h1.ev h
  have e2 : a.tmps.getD c undef = .pointer (some ⟨b, 0, none⟩) := e
  have h3 := hr.get w hw hs
  simp [e2, asAddr, loadVar, hT.get, h3]
def RvsOk (P : Program) (B : World) (n : Nat) (E : Env) (H : HP) : List ResultVar → List Value → Prop
  | [], vs => vs = []
  | r :: rs, vs => ∃ v us, vs = v :: us ∧ RvOk P B n E H r v ∧ RvsOk P B n E H rs us
theorem rvs_nil : RvsOk P B n E H [] [] := rfl
theorem rvs_cons {r : ResultVar} {rs : List ResultVar} {v : Value} {vs : List Value} (h : RvOk P B n E H r v) (hs : RvsOk P B n E H rs vs) : RvsOk P B n E H (r :: rs) (v :: vs) := ⟨v, vs, rfl, h, hs⟩
theorem results_evalG {fn : Func} {a : Act} {rs : List ResultVar} {vs : List Value} (hr : fn.results = rs.toArray) (he : EOk n E a) (hv : RvsOk P B n E H rs vs) {w : World} (hw : Sat B H w) :
    (results fn a.tmps).run P w = .ok (retOf vs) w := by
  have h2 : ∀ f : ResultVar → Sem Value, (∀ r v, r ∈ rs → RvOk P B n E H r v → (f r).run P w = .ok v w) → (List.mapM f rs).run P w = .ok vs w := by
    clear hr
    intro f hf
    induction rs generalizing vs with
    | nil => obtain rfl : vs = [] := hv; rfl
    | cons r rs ih =>
      obtain ⟨v, us, rfl, h3, h4⟩ := hv
      simp only [List.mapM_cons, Sem.run_bind, hf r v (by simp) h3, Result.andThen_ok, ih h4 (fun r v hm => hf r v (by simp [hm])), Sem.run_pure]
  unfold results
  rw [hr, List.mapM_toArray]
  simp only [Sem.run_bind, Sem.run_map]
  rw [h2 _ (fun r v _ h => by
    have := h a w he hw
    cases r <;> exact this)]
  simp only [Result.andThen_ok, Sem.run_pure]
  match vs with
  | [] => rfl
  | [v] => rfl
  | u :: v :: r => simp [retOf]
theorem a_retG {r : Option Nat} {fn : Func} {Post : Value → HP → Prop} {rs : List ResultVar} {vs : List Value} (H' : HP) [hE : Ent B H H'] (hr : fn.results = rs.toArray) (hv : RvsOk P B n E H rs vs)
    (hp : Post (retOf vs) H') : AtQ B (FPost P B fn Post) .ret n E ⟨[], r⟩ H :=
  fun _ w h1 h2 h3 => ⟨h2, _, results_evalG hr h1 hv h3, _, _, rfl, hp, hE.get w h3⟩
theorem a_endG {r : Option Nat} {fn : Func} {Post : Value → HP → Prop} {rs : List ResultVar} {vs : List Value} (H' : HP) [hE : Ent B H H'] (hr : fn.results = rs.toArray) (hv : RvsOk P B n E H rs vs)
    (hp : Post (retOf vs) H') : AtQ B (FPost P B fn Post) .normal n E ⟨[], r⟩ H :=
  fun _ w h1 h2 h3 => ⟨h2, _, results_evalG hr h1 hv h3, _, _, rfl, hp, hE.get w h3⟩
end
end Go.Proofs.YtgfdlpcdjklcoaaDoor
