/- Rules for pieces of code, over the small separation logic; no condition. -/
import Derived.Test.YtgfdlpcdjklcoaaDoorOp
import Derived.Sort.LoopGhostIn
import Derived.RangeFuncOwn
import Derived.RangeFuncLeaves
namespace Go.Proofs.YtgfdlpcdjklcoaaDoor
open Go Go.RowKit

/-- the deferred calls; the round in which the code runs -/
structure Dfr where
  ds : List Deferred
  r : Option Nat := none
def fr (r : Option Nat) : Fence := { Fence.wide with round := r }
theorem fr_room (r : Option Nat) (n : Nat) : (fr r).room n := fun _ h => by simp [fr, Fence.wide] at h
theorem callsFr {r : Option Nat} {n : Nat} {P : Program} {f : FuncId} {args : Array Value} {w : World} {R : Ending → World → Prop} (h : Calls P f args w R) : CallsIn (fr r) n P f args w R :=
  callsIn_wide (n := n).2 h
theorem rowsFr {r : Option Nat} {n : Nat} {P : Program} {row : String} {args : Array Value} {w : World} {R : Value → World → Prop} (h : Rows P row args w R) : RowsIn (fr r) n P row args w R :=
  fun c cs _ => let ⟨v, w', hr, hs⟩ := h c cs; ⟨v, w', hr, stepsIn_wide.2 hs⟩
/-- what an operation does, it does in a round -/
theorem wpFr {r : Option Nat} {n : Nat} {P : Program} {o : Oper} {a : Act} {w : World} {K : Act → World → Prop} {Q : Exit → Act → World → Prop} (ho : ∀ c, o.op ≠ .defer c) (h : o.wp P a w K Q) : o.wpIn (fr r) n P a w K Q := by
  refine ⟨fun _ _ => trivial, ?_⟩
  rw [Oper.semAt_eq _ _ _ ho]
  unfold Oper.wp at h
  generalize (execOp a.eval o).run P w = z at h ⊢
  cases z with
  | ok x w' =>
    cases x <;> simp only [Oper.upon] at h <;> first
      | exact h
      | exact h.elim
      | exact ⟨fun h0 => by simp [fr, Fence.wide] at h0, callsFr h⟩
      | exact ⟨fun h0 => by simp [fr, Fence.wide] at h0, rowsFr h⟩
  | halt x w' => cases x <;> simp only [Oper.upon] at h <;> first | exact h | exact h.elim
theorem run_defer {P : Program} {a : Act} {o : Oper} {c : Call} (ho : o.op = .defer c) (w : World) : (∃ d w', (execOp a.eval o).run P w = .ok (.defer d) w') ∨ ∃ x w', (execOp a.eval o).run P w = .halt x w' := by
  unfold execOp
  rw [ho]
  simp only [Sem.run_bind]
  cases h : (resolve a.eval c o.type).run P w with
  | ok d w' => exact .inl ⟨d, w', by simp [Result.andThen]⟩
  | halt x w' => exact .inr ⟨x, w', rfl⟩
def AtQ (B : World) (Q : Exit → Act → World → Prop) (e : Exit) (n : Nat) (E : Env) (D : Dfr) (H : HP) : Prop :=
  ∀ a w, EOk n E a → a.defers = D.ds → Sat B H w → Q e a w
def WP (P : Program) (B : World) (c : Code) (Q : Exit → Act → World → Prop) (n : Nat) (E : Env) (D : Dfr) (H : HP) : Prop :=
  ∀ a w, EOk n E a → a.defers = D.ds → Sat B H w → c.wpIn (fr D.r) 0 P Q a w
def WL (P : Program) (B : World) (ops : Array Oper) (Q : Exit → Act → World → Prop) (l : List Oper) (n : Nat) (E : Env) (D : Dfr) (H : HP) : Prop :=
  ∀ a w, EOk n E a → a.defers = D.ds → Sat B H w → wpListIn (fr D.r) 0 P ops Q l a w
/-- what an operation that turns memory may yield -/
def Eff (P : Program) (B : World) (n : Nat) (o : Oper) (E : Env) (D : Dfr) (H : HP) (Post : Value → HP → Prop) : Prop :=
  ∀ a w, EOk n E a → a.defers = D.ds → Sat B H w → ∀ (K : Act → World → Prop) (Q : Exit → Act → World → Prop),
    (∀ v H' w', Post v H' → Sat B H' w' → K (a.put o.dst v) w') → o.wp P a w K Q
/-- a call's contract -/
def Fn (P : Program) (B : World) (f : FuncId) (args : List Value) (H : HP) (Post : Value → HP → Prop) : Prop :=
  ∀ w, Sat B H w → Calls P f args.toArray w fun e w' => ∃ v H', e = .returned v ∧ Post v H' ∧ Sat B H' w'
theorem Fn.mono {P : Program} {B : World} {f : FuncId} {args : List Value} {H : HP} {A C : Value → HP → Prop} (h : Fn P B f args H A) (hc : ∀ v H', A v H' → C v H') : Fn P B f args H C :=
  fun w hw => (h w hw).mono fun _ _ ⟨v, H', e, a, s⟩ => ⟨v, H', e, hc v H' a, s⟩
class CallOk (P : Program) (f : FuncId) : Prop where
  get : ∀ args w, (callFunc f args).run P w = .ok (.enter f args) w

def evs (E : Env) : List Operand → Option (List Value)
  | [] => some []
  | x :: r => match ev E x with
    | some v => match evs E r with
      | some vs => some (v :: vs)
      | none => none
    | none => none
theorem evs_eval {n : Nat} {E : Env} {a : Act} (h : EOk n E a) : ∀ {xs : List Operand} {vs : List Value}, evs E xs = some vs → xs.map a.eval = vs := by
  intro xs
  induction xs with
  | nil => intro vs e; simpa [evs] using e
  | cons x r ih =>
    intro vs e
    simp only [evs] at e
    cases hx : ev E x with
    | none => simp [hx] at e
    | some v =>
      cases hr : evs E r with
      | none => simp [hx, hr] at e
      | some us =>
        simp only [hx, hr, Option.some.injEq] at e
        subst e
        simp [h.ev hx, ih hr]

section
variable {P : Program} {B : World} {n : Nat} {E : Env} {D : Dfr} {H : HP} {ops : Array Oper} {Q : Exit → Act → World → Prop} {rest : List Oper}
  {op : Op} {ty : TypeId} {pos : String} {af : Array Edge}

/-! ### lists of operations -/
/-- an operation's outcome, within a round too -/
def EffI (P : Program) (B : World) (n : Nat) (o : Oper) (E : Env) (D : Dfr) (H : HP) (Post : Value → HP → Prop) : Prop :=
  ∀ a w, EOk n E a → a.defers = D.ds → Sat B H w → ∀ (K : Act → World → Prop) (Q : Exit → Act → World → Prop),
    (∀ v H' w', Post v H' → Sat B H' w' → K (a.put o.dst v) w') → o.wpIn (fr D.r) 0 P a w K Q
theorem Eff.noDefer {o : Oper} {Post : Value → HP → Prop} (he : Eff P B n o E D H Post) {a : Act} {w : World} (h1 : EOk n E a) (h2 : a.defers = D.ds) (h3 : Sat B H w) : ∀ c, o.op ≠ .defer c := by
  intro c hc
  have h := he a w h1 h2 h3 (fun a' _ => a'.defers = a.defers) (fun _ _ _ => False) (fun v H' w' _ _ => by simp [Act.put]; cases o.dst <;> rfl)
  unfold Oper.wp at h
  rcases run_defer (a := a) (P := P) hc w with ⟨d, w', e⟩ | ⟨x, w', e⟩
  · rw [e] at h
    have h4 : ({ a with defers := d :: a.defers }.put o.dst undef).defers = a.defers := h
    have h5 : ({ a with defers := d :: a.defers }.put o.dst undef).defers = d :: a.defers := by cases o.dst <;> rfl
    rw [h5] at h4
    exact absurd (congrArg List.length h4) (by simp)
  · rw [e] at h; cases x <;> exact h.elim
theorem Eff.toI {o : Oper} {Post : Value → HP → Prop} (he : Eff P B n o E D H Post) : EffI P B n o E D H Post :=
  fun a w h1 h2 h3 K Q hk => wpFr (he.noDefer h1 h2 h3) (he a w h1 h2 h3 K Q hk)
theorem Val.toI {o : Oper} {v : Value} (hv : Val P B n o E H v) : EffI P B n o E D H (fun v' H' => v' = v ∧ H' = H) := by
  intro a w h1 h2 h3 K Q hk
  refine wpFr (fun c hc => ?_) ?_
  · rcases run_defer (a := a) (P := P) hc w with ⟨d, w', e⟩ | ⟨x, w', e⟩ <;> rw [hv a w h1 h3] at e <;> cases e
  · simp only [Oper.wp, hv a w h1 h3, Oper.upon]
    exact hk _ _ _ ⟨rfl, rfl⟩ h3
theorem l_nil (h : AtQ B Q .normal n E D H) : WL P B ops Q [] n E D H := fun a w h1 h2 h3 => wpListIn_nil (h a w h1 h2 h3)
theorem l_effI {t : Nat} {Post : Value → HP → Prop} (he : EffI P B n ⟨some t, op, ty, pos, af, none⟩ E D H Post) (ht : Nat.blt t n = true)
    (next : ∀ v H', Post v H' → WL P B ops Q rest n ((t, v) :: E) D H') : WL P B ops Q (⟨some t, op, ty, pos, af, none⟩ :: rest) n E D H := by
  intro a w h1 h2 h3
  unfold wpListIn
  rw [if_pos (by simp [Region.wanted])]
  exact he a w h1 h2 h3 _ _ fun v H' w' hp hs => next v H' hp _ w' (h1.put (by simpa using ht) v) (by simp [Act.put, h2]) hs
theorem l_effI0 {Post : Value → HP → Prop} (he : EffI P B n ⟨none, op, ty, pos, af, none⟩ E D H Post)
    (next : ∀ v H', Post v H' → WL P B ops Q rest n E D H') : WL P B ops Q (⟨none, op, ty, pos, af, none⟩ :: rest) n E D H := by
  intro a w h1 h2 h3
  unfold wpListIn
  rw [if_pos (by simp [Region.wanted])]
  exact he a w h1 h2 h3 _ _ fun v H' w' hp hs => next v H' hp _ w' h1 h2 hs
theorem l_val {t : Nat} {v : Value} (hv : Val P B n ⟨some t, op, ty, pos, af, none⟩ E H v) (ht : Nat.blt t n = true)
    (next : WL P B ops Q rest n ((t, v) :: E) D H) : WL P B ops Q (⟨some t, op, ty, pos, af, none⟩ :: rest) n E D H :=
  l_effI hv.toI ht (by rintro _ _ ⟨rfl, rfl⟩; exact next)
theorem l_val0 {v : Value} (hv : Val P B n ⟨none, op, ty, pos, af, none⟩ E H v)
    (next : WL P B ops Q rest n E D H) : WL P B ops Q (⟨none, op, ty, pos, af, none⟩ :: rest) n E D H :=
  l_effI0 hv.toI (by rintro _ _ ⟨rfl, rfl⟩; exact next)
theorem l_eff {t : Nat} {Post : Value → HP → Prop} (he : Eff P B n ⟨some t, op, ty, pos, af, none⟩ E D H Post) (ht : Nat.blt t n = true)
    (next : ∀ v H', Post v H' → WL P B ops Q rest n ((t, v) :: E) D H') : WL P B ops Q (⟨some t, op, ty, pos, af, none⟩ :: rest) n E D H := l_effI he.toI ht next
theorem l_eff0 {Post : Value → HP → Prop} (he : Eff P B n ⟨none, op, ty, pos, af, none⟩ E D H Post)
    (next : ∀ v H', Post v H' → WL P B ops Q rest n E D H') : WL P B ops Q (⟨none, op, ty, pos, af, none⟩ :: rest) n E D H := l_effI0 he.toI next
/-- an operation under a guard -/
theorem l_guard {t j tj : Nat} {b want : Bool} (hj : (ops[j]?).bind (·.dst) = some tj) (hb : lk E tj = some (.bool b)) (ht : Nat.blt t n = true)
    (yes : b = want → WL P B ops Q (⟨some t, op, ty, pos, af, none⟩ :: rest) n E D H)
    (no : b = !want → WL P B ops Q rest n ((t, undef) :: E) D H) : WL P B ops Q (⟨some t, op, ty, pos, af, some (j, want)⟩ :: rest) n E D H := by
  intro a w h1 h2 h3
  have hy : yielded ops a.tmps j = some b := by
    have := h1.2 _ _ hb
    simp [yielded, hj, this]
  unfold wpListIn
  by_cases h : b = want
  · have := yes h a w h1 h2 h3
    unfold wpListIn at this
    rw [if_pos (by simp [Region.wanted])] at this
    rw [if_pos (by simp [Region.wanted, hy, h])]
    exact this
  · rw [if_neg (by simp [Region.wanted, hy, h])]
    exact ⟨fun _ _ => trivial, no (by cases b <;> cases want <;> simp_all) _ w (h1.put (by simpa using ht) undef) (by simp [Act.put, h2]) h3⟩

/-! ### code -/
variable {c x y : Code} {id : Nat}
theorem w_seq (h : WP P B x (Exit.then (y.wpIn (fr D.r) 0 P Q) Q) n E D H) : WP P B (.seq x y) Q n E D H := fun a w h1 h2 h3 => wpIn_seq (h a w h1 h2 h3)
theorem w_region {l : List Oper} (hl : ops.toList = l) (h : WL P B ops Q l n E D H) : WP P B (.region id ops false) Q n E D H :=
  fun a w h1 h2 h3 => wpIn_region_list (by rw [hl]; exact h a w h1 h2 h3)
theorem w_cond {t : Operand} {b : Bool} (hb : ev E t = some (.bool b)) (h1 : b = true → WP P B x Q n E D H) (h2 : b = false → WP P B y Q n E D H) :
    WP P B (.cond t x y) Q n E D H := by
  intro a w e1 e2 e3
  refine wpIn_cond (e1.ev hb) ?_
  cases b
  · exact h2 rfl a w e1 e2 e3
  · exact h1 rfl a w e1 e2 e3
theorem w_condD {t : Operand} {p : Prop} [Decidable p] (hb : ev E t = some (.bool (decide p))) (h1 : p → WP P B x Q n E D H) (h2 : ¬ p → WP P B y Q n E D H) :
    WP P B (.cond t x y) Q n E D H :=
  w_cond hb (fun h => h1 (by simpa using h)) (fun h => h2 (by simpa using h))
theorem w_block (h : WP P B c (Exit.inBlock id Q) n E D H) : WP P B (.block id c) Q n E D H := fun a w h1 h2 h3 => wpIn_block (h a w h1 h2 h3)
theorem w_skip (h : AtQ B Q .normal n E D H) : WP P B .skip Q n E D H := fun a w h1 h2 h3 => wpIn_skip (h a w h1 h2 h3)
theorem w_exit (h : AtQ B Q (.exit id) n E D H) : WP P B (.exit id) Q n E D H := fun a w h1 h2 h3 => wpIn_exit (h a w h1 h2 h3)
theorem w_ret (h : AtQ B Q .ret n E D H) : WP P B .ret Q n E D H := fun a w h1 h2 h3 => wpIn_ret (h a w h1 h2 h3)
/-- what a round hands on -/
def LoopK (B : World) (n : Nat) (D : Dfr) {α : Type} (EE : α → Env) (HH : α → HP) (φ : α → Prop) (μ : α → Nat) (m : Nat) : Act → World → Prop :=
  fun a w => ∃ y, φ y ∧ μ y < m ∧ EOk n (EE y) a ∧ a.defers = D.ds ∧ Sat B (HH y) w
theorem w_loop {α : Type} (EE : α → Env) (HH : α → HP) (φ : α → Prop) (μ : α → Nat) (x0 : α) (h0 : φ x0) (s0 : Sub E (EE x0)) (e0 : H = HH x0)
    (round : ∀ x, φ x → WP P B c (Exit.then (LoopK B n D EE HH φ μ (μ x)) Q) n (EE x) D (HH x)) : WP P B (.loop c) Q n E D H := by
  intro a w h1 h2 h3
  refine wpIn_loop_ghost (fun m a w => ∃ y, φ y ∧ μ y = m ∧ EOk n (EE y) a ∧ a.defers = D.ds ∧ Sat B (HH y) w) (μ x0) ⟨x0, h0, rfl, h1.sub s0, h2, e0 ▸ h3⟩ ?_
  rintro m a w ⟨y, hy, rfl, g1, g2, g3⟩
  refine wpIn_mono (round y hy a w g1 g2 g3) ?_
  intro e a' w' hq
  cases e with
  | normal => obtain ⟨z, k1, k2, k3, k4, k5⟩ := hq; exact ⟨μ z, k2, z, k1, rfl, k3, k4, k5⟩
  | exit id => exact hq
  | goto l => exact hq
  | ret => exact hq
  | panic ch => exact hq
  | outgrown => exact hq
/-! ### ways out -/
theorem a_normal (h : WP P B y Q n E D H) : AtQ B (Exit.then (y.wpIn (fr D.r) 0 P Q) Q) .normal n E D H := h
theorem a_then {K : Act → World → Prop} {e : Exit} (he : e ≠ .normal) (h : AtQ B Q e n E D H) : AtQ B (Exit.then K Q) e n E D H := by
  intro a w h1 h2 h3
  have := h a w h1 h2 h3
  cases e <;> first | exact absurd rfl he | exact this
theorem a_tret {K : Act → World → Prop} (h : AtQ B Q .ret n E D H) : AtQ B (Exit.then K Q) .ret n E D H := h
theorem a_texit {K : Act → World → Prop} (h : AtQ B Q (.exit id) n E D H) : AtQ B (Exit.then K Q) (.exit id) n E D H := h
theorem a_bret (h : AtQ B Q .ret n E D H) : AtQ B (Exit.inBlock id Q) .ret n E D H := h
theorem a_bnormal (h : AtQ B Q .normal n E D H) : AtQ B (Exit.inBlock id Q) .normal n E D H := h
theorem a_bexit (h : AtQ B Q .normal n E D H) : AtQ B (Exit.inBlock id Q) (.exit id) n E D H := by
  intro a w h1 h2 h3; simp only [Exit.inBlock, if_true]; exact h a w h1 h2 h3
theorem a_bpass {i : Nat} (hi : Nat.beq i id = false) (h : AtQ B Q (.exit i) n E D H) : AtQ B (Exit.inBlock id Q) (.exit i) n E D H := by
  intro a w h1 h2 h3
  have : i ≠ id := fun e => by subst e; simp at hi
  simp only [Exit.inBlock, this, if_false]; exact h a w h1 h2 h3
theorem a_loop {α : Type} {EE : α → Env} {HH : α → HP} {φ : α → Prop} {μ : α → Nat} {m : Nat} (z : α) (h0 : φ z) (hm : μ z < m) (s0 : Sub E (EE z)) (e0 : H = HH z) :
    AtQ B (Exit.then (LoopK B n D EE HH φ μ m) Q) .normal n E D H :=
  fun _ _ h1 h2 h3 => ⟨z, h0, hm, h1.sub s0, h2, e0 ▸ h3⟩
/-- a cut: what is known where two ways meet -/
def CutK (B : World) (n : Nat) (D : Dfr) {α : Type} (EE : α → Env) (HH : α → HP) (φ : α → Prop) (Q : Exit → Act → World → Prop) : Exit → Act → World → Prop
  | .normal, a, w => ∃ y, φ y ∧ EOk n (EE y) a ∧ a.defers = D.ds ∧ Sat B (HH y) w
  | e, a, w => Q e a w
theorem w_cut {α : Type} (EE : α → Env) (HH : α → HP) (φ : α → Prop) (h1 : WP P B c (CutK B n D EE HH φ Q) n E D H)
    (h2 : ∀ z, φ z → AtQ B Q .normal n (EE z) D (HH z)) : WP P B c Q n E D H := by
  intro a w e1 e2 e3
  refine wpIn_mono (h1 a w e1 e2 e3) ?_
  intro e a' w' hq
  cases e with
  | normal => obtain ⟨z, k1, k3, k4, k5⟩ := hq; exact h2 z k1 a' w' k3 k4 k5
  | exit id => exact hq
  | goto l => exact hq
  | ret => exact hq
  | panic ch => exact hq
  | outgrown => exact hq
theorem a_cut {α : Type} {EE : α → Env} {HH : α → HP} {φ : α → Prop} (z : α) (h0 : φ z) (s0 : Sub E (EE z)) (e0 : H = HH z) :
    AtQ B (CutK B n D EE HH φ Q) .normal n E D H := fun _ _ h1 h2 h3 => ⟨z, h0, h1.sub s0, h2, e0 ▸ h3⟩
theorem a_cret {α : Type} {EE : α → Env} {HH : α → HP} {φ : α → Prop} (h : AtQ B Q .ret n E D H) : AtQ B (CutK B n D EE HH φ Q) .ret n E D H := h
theorem a_cexit {α : Type} {EE : α → Env} {HH : α → HP} {φ : α → Prop} (h : AtQ B Q (.exit id) n E D H) : AtQ B (CutK B n D EE HH φ Q) (.exit id) n E D H := h

/-! ### the assertion -/
theorem w_heap {H' : HP} (e : H = H') (h : WP P B c Q n E D H') : WP P B c Q n E D H := e ▸ h
theorem l_heap {H' : HP} {l : List Oper} (e : H = H') (h : WL P B ops Q l n E D H') : WL P B ops Q l n E D H := e ▸ h
theorem w_ex {α : Type} {A : α → HP} {R : HP} (h : ∀ z, WP P B c Q n E D (A z * R)) : WP P B c Q n E D (HP.ex A * R) := by
  intro a w h1 h2 h3
  rw [HP.ex_mul] at h3
  obtain ⟨z, h4⟩ := Sat.ex.1 h3
  exact h z a w h1 h2 h4
theorem l_ex {α : Type} {A : α → HP} {R : HP} {l : List Oper} (h : ∀ z, WL P B ops Q l n E D (A z * R)) : WL P B ops Q l n E D (HP.ex A * R) := by
  intro a w h1 h2 h3
  rw [HP.ex_mul] at h3
  obtain ⟨z, h4⟩ := Sat.ex.1 h3
  exact h z a w h1 h2 h4
theorem w_pr {p : Prop} {R : HP} (h : p → WP P B c Q n E D R) : WP P B c Q n E D (HP.pr p * R) := by
  intro a w h1 h2 h3
  obtain ⟨hp, h4⟩ := Sat.pr.1 h3
  exact h hp a w h1 h2 h4
theorem l_pr {p : Prop} {R : HP} {l : List Oper} (h : p → WL P B ops Q l n E D R) : WL P B ops Q l n E D (HP.pr p * R) := by
  intro a w h1 h2 h3
  obtain ⟨hp, h4⟩ := Sat.pr.1 h3
  exact h hp a w h1 h2 h4
theorem w_drop {A R : HP} (h : WP P B c Q n E D R) : WP P B c Q n E D (A * R) := fun a w h1 h2 h3 => h a w h1 h2 h3.right
theorem w_env {E' : Env} (s : Sub E E') (h : WP P B c Q n E' D H) : WP P B c Q n E D H := fun a w h1 h2 h3 => h a w (h1.sub s) h2 h3

/-! ### functions -/
/-- the temporaries at a function's begin -/
def mkE : Nat → List Value → Env
  | _, [] => []
  | k, v :: r => (k, v) :: mkE (k + 1) r
theorem lk_mkE : ∀ (vs : List Value) (k t : Nat) (v : Value), lk (mkE k vs) t = some v → k ≤ t ∧ vs[t - k]? = some v
  | [], _, _, _, h => by cases h
  | u :: r, k, t, v, h => by
    simp only [mkE, lk] at h
    cases hb : Nat.beq k t
    · rw [hb] at h
      obtain ⟨h1, h2⟩ := lk_mkE r (k + 1) t v h
      refine ⟨by omega, ?_⟩
      rw [show t - k = (t - (k + 1)) + 1 by omega]; simpa using h2
    · rw [hb] at h
      obtain rfl := Nat.eq_of_beq_eq_true hb
      exact ⟨Nat.le_refl _, by simpa using h⟩
def FPost (P : Program) (B : World) (fn : Func) (Post : Value → HP → Prop) : Exit → Act → World → Prop :=
  bodyPost P fn fun e w' => ∃ v H', e = .returned v ∧ Post v H' ∧ Sat B H' w'
theorem fn_intro {f : FuncId} {fn : Func} {args : List Value} {Post : Value → HP → Prop} (hf : P.funcs[f]? = some fn) (hb : fn.body = some c) (hn : fn.ntmps = n)
    (ha : Nat.ble args.length n = true) (h : WP P B c (FPost P B fn Post) n (mkE 0 args) ⟨[], none⟩ H) : Fn P B f args H Post := by
  intro w hw
  refine calls_of_wp hf hb (wpIn_wide.1 (h _ w ⟨?_, ?_⟩ rfl hw))
  · have : args.length ≤ n := by simpa using ha
    simp [hn]; omega
  · intro t v e
    obtain ⟨_, h2⟩ := lk_mkE args 0 t v e
    simp only [Nat.sub_zero] at h2
    have hlt : t < args.length := (List.getElem?_eq_some_iff.1 h2).1
    simp only []
    rw [Array.getElem?_append_left (by simpa using hlt)]
    simpa using h2
def retOf : List Value → Value
  | [v] => v
  | vs => .tuple vs.toArray
theorem results_eval {fn : Func} {a : Act} {ts : List Nat} {vs : List Value} (hr : fn.results = (ts.map ResultVar.tmp).toArray) (he : EOk n E a)
    (hv : evs E (ts.map Operand.tmp) = some vs) (w : World) : (results fn a.tmps).run P w = .ok (retOf vs) w := by
  have h1 := evs_eval he hv
  have h2 : ∀ f : ResultVar → Sem Value, (∀ t, f (.tmp t) = Pure.pure (a.tmps.getD t undef)) → fn.results.mapM f = Pure.pure vs.toArray := by
    intro f hf
    have h3 : List.mapM (f ∘ ResultVar.tmp) ts = Pure.pure (ts.map fun t => a.tmps.getD t undef) := by
      rw [show f ∘ ResultVar.tmp = fun t => Pure.pure (a.tmps.getD t undef) from funext hf]; exact List.mapM_pure ..
    rw [hr, List.mapM_toArray, List.mapM_map, h3, map_pure, ← h1, List.map_map]; rfl
  unfold results
  rw [h2 _ (fun _ => rfl)]
  simp only [pure_bind, Sem.run_pure]
  congr 1
  match vs with
  | [] => rfl
  | [v] => rfl
  | u :: v :: r =>
    rw [dif_neg (by simp)]; rfl
theorem a_ret {r : Option Nat} {fn : Func} {Post : Value → HP → Prop} {ts : List Nat} {vs : List Value} (hr : fn.results = (ts.map ResultVar.tmp).toArray) (hv : evs E (ts.map Operand.tmp) = some vs)
    (hp : Post (retOf vs) H) : AtQ B (FPost P B fn Post) .ret n E ⟨[], r⟩ H :=
  fun _ w h1 h2 h3 => ⟨h2, _, results_eval hr h1 hv w, _, _, rfl, hp, h3⟩
theorem a_end {r : Option Nat} {fn : Func} {Post : Value → HP → Prop} {ts : List Nat} {vs : List Value} (hr : fn.results = (ts.map ResultVar.tmp).toArray) (hv : evs E (ts.map Operand.tmp) = some vs)
    (hp : Post (retOf vs) H) : AtQ B (FPost P B fn Post) .normal n E ⟨[], r⟩ H :=
  fun _ w h1 h2 h3 => ⟨h2, _, results_eval hr h1 hv w, _, _, rfl, hp, h3⟩
end
end Go.Proofs.YtgfdlpcdjklcoaaDoor
