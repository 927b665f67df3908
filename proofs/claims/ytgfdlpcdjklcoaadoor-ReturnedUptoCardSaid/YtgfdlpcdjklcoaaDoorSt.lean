/- Rules for one operation, over the small separation logic; no condition. -/
import Derived.Test.YtgfdlpcdjklcoaaDoorSl
namespace Go.Proofs.YtgfdlpcdjklcoaaDoor
open Go Go.RowKit

/-- what is known of the temporaries -/
abbrev Env := List (Nat × Value)
def lk : Env → Nat → Option Value
  | [], _ => none
  | (u, v) :: E, t => bif Nat.beq u t then some v else lk E t
def ev (E : Env) : Operand → Option Value
  | .tmp t => lk E t
  | .const v => some v
  | .global g => some (.pointer (some ⟨g, 0, none⟩))
  | .func f => some (.func (.func f) #[] #[])

/-- the temporaries hold what is known of them -/
def EOk (n : Nat) (E : Env) (a : Act) : Prop := a.tmps.size = n ∧ ∀ t v, lk E t = some v → a.tmps[t]? = some v

theorem EOk.ev {n : Nat} {E : Env} {a : Act} (h : EOk n E a) {x : Operand} {v : Value} (e : ev E x = some v) : a.eval x = v := by
  cases x with
  | tmp t => have := h.2 t v e; simp [Act.eval, this]
  | const u => simpa [Proofs.YtgfdlpcdjklcoaaDoor.ev, Act.eval] using e
  | global g => simpa [Proofs.YtgfdlpcdjklcoaaDoor.ev, Act.eval] using e
  | func f => simpa [Proofs.YtgfdlpcdjklcoaaDoor.ev, Act.eval] using e

theorem EOk.put {n : Nat} {E : Env} {a : Act} (h : EOk n E a) {t : Nat} (ht : t < n) (v : Value) : EOk n ((t, v) :: E) (a.put (some t) v) := by
  refine ⟨by simp [Act.put, h.1], fun u w e => ?_⟩
  simp only [lk] at e
  cases hb : Nat.beq t u
  · rw [hb] at e
    have hne : t ≠ u := fun h => by subst h; simp at hb
    simp only [Act.put, Array.getElem?_setIfInBounds_ne hne]
    exact h.2 u w e
  · rw [hb] at e
    obtain rfl := Nat.eq_of_beq_eq_true hb
    simp only [cond_true, Option.some.injEq] at e
    subst e
    simp [Act.put, h.1, ht]

theorem EOk.put_none {n : Nat} {E : Env} {a : Act} (h : EOk n E a) (v : Value) : EOk n E (a.put none v) := h

/-- one environment says no more than another -/
def Sub (E F : Env) : Prop := ∀ t v, lk F t = some v → lk E t = some v
theorem EOk.sub {n : Nat} {E F : Env} {a : Act} (h : EOk n E a) (s : Sub E F) : EOk n F a := ⟨h.1, fun t v e => h.2 t v (s t v e)⟩
theorem Sub.nil {E : Env} : Sub E [] := fun _ _ h => by cases h
theorem Sub.cons {E F : Env} {t : Nat} {v : Value} (h : lk E t = some v) (s : Sub E F) : Sub E ((t, v) :: F) := by
  intro u w e
  simp only [lk] at e
  cases hb : Nat.beq t u
  · rw [hb] at e; exact s u w e
  · rw [hb] at e
    obtain rfl := Nat.eq_of_beq_eq_true hb
    simp only [cond_true, Option.some.injEq] at e
    subst e; exact h

/-! ### the heap -/
class Nth (l : List Value) (k : Nat) (v : outParam Value) : Prop where
  get : l[k]? = some v
instance (priority := 1100) (v : Value) (l : List Value) : Nth (v :: l) 0 v := ⟨rfl⟩
instance (u v : Value) (l : List Value) (k : Nat) [h : Nth l k v] : Nth (u :: l) (k + 1) v := ⟨by simpa using h.get⟩
class SetN (l : List Value) (k : Nat) (v : Value) (l' : outParam (List Value)) : Prop where
  lt : k < l.length
  eq : l' = l.set k v
instance (u v : Value) (l : List Value) : SetN (u :: l) 0 v (v :: l) := ⟨by simp, rfl⟩
instance (u v : Value) (l l' : List Value) (k : Nat) [h : SetN l k v l'] : SetN (u :: l) (k + 1) v (u :: l') := ⟨by have := h.lt; simp; omega, by rw [h.eq]; rfl⟩

/-- the assertion holds a cell -/
class Cell (H : HP) (b i : Nat) (v : outParam Value) (s : outParam Prop) : Prop where
  get : ∀ r, H r → s → r.c b i = some v
instance (b o k : Nat) (l : List Value) (v : Value) [h : Nth l k v] : Cell (HP.pts b o l) b (o + k) v True :=
  ⟨fun r hr _ => by rw [show r = _ from hr]; simp [h.get]⟩
instance (priority := 900) (b o : Nat) (l : List Value) (v : Value) : Cell (HP.pts b o (v :: l)) b o v True :=
  ⟨fun r hr _ => by rw [show r = _ from hr]; simp⟩
instance (A C : HP) (b i : Nat) (v : Value) (s : Prop) [h : Cell A b i v s] : Cell (A * C) b i v s :=
  ⟨fun r ⟨x, y, _, e, a, _⟩ hs => by rw [e]; simp [Res.un, h.get x a hs]⟩
instance (A C : HP) (b i : Nat) (v : Value) (s : Prop) [h : Cell C b i v s] : Cell (A * C) b i v s :=
  ⟨fun r ⟨x, y, d, e, _, c⟩ hs => by
    have := h.get y c hs
    rw [e]; rcases d.1 b i with h1 | h1
    · simp [Res.un, this, h1]
    · rw [this] at h1; cases h1⟩

/-- in every world in which the assertion holds a cell reads so -/
class Rd (B : World) (H : HP) (b i : Nat) (v : outParam Value) (s : outParam Prop) : Prop where
  get : ∀ w, Sat B H w → s → w.cell? ⟨b, i, none⟩ = some v
instance (priority := 500) (B : World) (H : HP) (b i : Nat) (v : Value) (s : Prop) [h : Cell H b i v s] : Rd B H b i v s :=
  ⟨fun _ ⟨_, r, hr, hl⟩ hs => hl.cell b i v (h.get r hr hs)⟩

instance (priority := 400) (B : World) (A C : HP) (b i : Nat) (v : Value) (s : Prop) [h : Rd B A b i v s] : Rd B (A * C) b i v s := ⟨fun w hw hs => h.get w hw.left hs⟩
instance (priority := 400) (B : World) (A C : HP) (b i : Nat) (v : Value) (s : Prop) [h : Rd B C b i v s] : Rd B (A * C) b i v s := ⟨fun w hw hs => h.get w hw.right hs⟩
def Res.set (b i : Nat) (v : Value) (r : Res) : Res := ⟨fun b' i' => if b' = b ∧ i' = i then some v else r.c b' i', r.o⟩
/-- a store turns one assertion into another -/
class Upd (H : HP) (b i : Nat) (v : Value) (H' : outParam HP) (s : outParam Prop) : Prop where
  upd : ∀ r, H r → s → r.c b i ≠ none ∧ H' (r.set b i v)
instance (b o k : Nat) (l l' : List Value) (v : Value) [h : SetN l k v l'] : Upd (HP.pts b o l) b (o + k) v (HP.pts b o l') True :=
  ⟨fun r hr _ => by
    have hlt := h.lt
    rw [show r = _ from hr]
    refine ⟨by simp [hlt], ?_⟩
    show Res.set _ _ _ _ = _
    apply Res.ext
    · intro b' i'
      rw [h.eq]
      simp only [Res.set, List.getElem?_set]
      by_cases h1 : b' = b ∧ i' = o + k
      · obtain ⟨rfl, rfl⟩ := h1; simp [hlt]
      · by_cases h2 : b' = b ∧ o ≤ i'
        · rw [if_neg h1, if_pos h2, if_pos h2, if_neg (by omega)]
        · rw [if_neg h1, if_neg h2, if_neg h2]
    · intro b'; rfl⟩
instance (priority := 900) (b o : Nat) (l : List Value) (u v : Value) : Upd (HP.pts b o (u :: l)) b o v (HP.pts b o (v :: l)) True := by
  have h : Upd (HP.pts b o (u :: l)) b (o + 0) v (HP.pts b o (v :: l)) True := inferInstance
  exact h
theorem Res.set_un_left {b i : Nat} {v : Value} {x y : Res} (d : x.dj y) (h : x.c b i ≠ none) : (x.set b i v).dj y ∧ (x.un y).set b i v = (x.set b i v).un y := by
  have hy : y.c b i = none := (d.1 b i).resolve_left h
  refine ⟨⟨fun b' i' => ?_, d.2⟩, ?_⟩
  · by_cases e : b' = b ∧ i' = i
    · obtain ⟨rfl, rfl⟩ := e; exact .inr hy
    · rcases d.1 b' i' with h1 | h1
      · left; simp only [Res.set, if_neg e]; exact h1
      · exact .inr h1
  · apply Res.ext
    · intro b' i'
      simp only [Res.set, Res.un]
      by_cases e : b' = b ∧ i' = i
      · simp [e]
      · simp [e]
    · intro b'; rfl
instance (A A' C : HP) (b i : Nat) (v : Value) (s : Prop) [h : Upd A b i v A' s] : Upd (A * C) b i v (A' * C) s :=
  ⟨fun r ⟨x, y, d, e, a, c⟩ hs => by
    obtain ⟨h1, h2⟩ := h.upd x a hs
    obtain ⟨h3, h4⟩ := Res.set_un_left (v := v) d h1
    subst e
    refine ⟨?_, _, y, h3, h4, h2, c⟩
    simp only [Res.un]
    cases hx : x.c b i with
    | none => exact absurd hx h1
    | some _ => simp⟩
instance (A C C' : HP) (b i : Nat) (v : Value) (s : Prop) [h : Upd C b i v C' s] : Upd (A * C) b i v (A * C') s :=
  ⟨by rw [HP.comm A C, HP.comm A C']; exact (inferInstance : Upd (C * A) b i v (C' * A) s).upd⟩

theorem Sat.store {B : World} {H H' : HP} {b i : Nat} {v : Value} {s : Prop} {w : World} (h : Upd H b i v H' s) (hw : Sat B H w) (hs : s) :
    (∃ u, w.cell? ⟨b, i, none⟩ = some u) ∧ w.frozen? ⟨b, i, none⟩ = false ∧ Sat B H' (w.setCell ⟨b, i, none⟩ v) := by
  obtain ⟨h1, r, hr, hl⟩ := hw
  obtain ⟨h2, h3⟩ := h.upd r hr hs
  obtain ⟨u, hu⟩ := Option.ne_none_iff_exists'.1 h2
  have hc := hl.cell b i u hu
  have hne : ∀ k, k < B.heap.size → (w.setCell ⟨b, i, none⟩ v).heap[k]? = w.heap[k]? := fun k hk => by
    have := hl.above b i u hu
    simp only [World.setCell]
    rw [Array.getElem?_modify, if_neg (by omega)]
  refine ⟨⟨u, hc⟩, hl.free b i u hu, ⟨h1.os, h1.tape, h1.output, by simpa [World.setCell] using h1.size, fun k hk => (hne k hk).trans (h1.block k hk)⟩, _, h3, ?_⟩
  refine ⟨fun b' i' v' e => ?_, fun b' i' v' e => ?_, fun b' x e => ?_, fun b' x e => hl.other b' x e, fun b' i' v' e => ?_, fun b' x e => hl.aboveO b' x e⟩
  · simp only [Res.set] at e
    by_cases he : b' = b ∧ i' = i
    · obtain ⟨rfl, rfl⟩ := he
      simp at e; subst e
      exact World.cell?_setCell_same _ _ _ hc
    · rw [if_neg he] at e
      rw [World.cell?_setCell_other _ _ _ _ (fun h => he (by cases h; exact ⟨rfl, rfl⟩))]
      exact hl.cell b' i' v' e
  · rw [World.frozen?_setCell]
    simp only [Res.set] at e
    by_cases he : b' = b ∧ i' = i
    · obtain ⟨rfl, rfl⟩ := he; exact hl.free _ _ u hu
    · rw [if_neg he] at e; exact hl.free b' i' v' e
  · have hx := hl.obj b' x e
    simp only [World.setCell]
    rw [Array.getElem?_modify]
    by_cases hbb : b = b'
    · subst hbb
      rw [if_pos rfl, hx]
      have := hl.other b x e
      cases x <;> first | rfl | exact absurd rfl (this _ _ _)
    · rw [if_neg hbb]; exact hx
  · simp only [Res.set] at e
    by_cases he : b' = b ∧ i' = i
    · obtain ⟨rfl, rfl⟩ := he; exact hl.above _ _ u hu
    · rw [if_neg he] at e; exact hl.above b' i' v' e

theorem World.alloc_size (w : World) (o : Obj) : (w.alloc o).heap.size = w.heap.size + 1 := Array.size_push ..
theorem Sat.allocM {B : World} {H : HP} {w : World} (hw : Sat B H w) (c : Array Value) (t : TypeId) (lo hi : Nat) (hfr : hi = 0 ∨ c.size ≤ lo) :
    Sat B (HP.pts w.heap.size 0 c.toList * H) (w.alloc (.cells c t (lo, hi))) := by
  obtain ⟨h1, r, hr, hl⟩ := hw
  have hsz : B.heap.size ≤ w.heap.size := h1.size
  have hlt : ∀ b i v, r.c b i = some v → b < w.heap.size := fun b i v e => by
    rcases Nat.lt_or_ge b w.heap.size with h | h
    · exact h
    · have := hl.cell b i v e; simp [World.cell?, Array.getElem?_eq_none h] at this
  have hltO : ∀ b x, r.o b = some x → b < w.heap.size := fun b x e => by
    rcases Nat.lt_or_ge b w.heap.size with h | h
    · exact h
    · have := hl.obj b x e; simp [Array.getElem?_eq_none h] at this
  refine ⟨⟨h1.os, h1.tape, h1.output, (by rw [World.alloc_size]; omega), fun k hk => ?_⟩, _, ⟨_, r, ?_, rfl, rfl, hr⟩, ?_⟩
  · rw [← h1.block k hk]
    simp only [World.alloc]
    rw [Array.getElem?_push_lt (by omega)]
    exact (Array.getElem?_eq_getElem (by omega)).symm
  · refine ⟨fun b i => ?_, fun b => .inl rfl⟩
    cases e : r.c b i with
    | none => exact .inr rfl
    | some v => left; simp only []; rw [if_neg]; intro h; have := hlt b i v e; omega
  · refine ⟨fun b i v e => ?_, fun b i v e => ?_, fun b x e => ?_, fun b x e => ?_, fun b i v e => ?_, fun b x e => ?_⟩
    · simp only [Res.un] at e
      by_cases h : b = w.heap.size ∧ 0 ≤ i
      · obtain ⟨rfl, _⟩ := h
        rw [World.cell?_alloc_mark]
        cases h2 : r.c w.heap.size i with
        | none => simpa [h2] using e
        | some u => have := hlt _ _ _ h2; omega
      · rw [if_neg h] at e
        simp at e
        rw [World.cell?_alloc_lt _ _ _ (hlt b i v e)]; exact hl.cell b i v e
    · simp only [Res.un] at e
      by_cases h : b = w.heap.size ∧ 0 ≤ i
      · obtain ⟨rfl, _⟩ := h
        rw [World.frozen?_alloc_mark]
        have hlt2 : i < c.size := by
          cases h2 : r.c w.heap.size i with
          | none =>
            have e2 : c[i]? = some v := by simpa [h2] using e
            exact (Array.getElem?_eq_some_iff.1 e2).1
          | some u => have := hlt _ _ _ h2; omega
        rcases hfr with h3 | h3 <;> simp <;> omega
      · rw [if_neg h] at e
        simp at e
        rw [World.frozen?_alloc_old _ _ _ (by have := hlt b i v e; simp; omega)]; exact hl.free b i v e
    · simp only [Res.un] at e
      have e' : r.o b = some x := by simpa using e
      simp only [World.alloc]
      rw [Array.getElem?_push_lt (hltO b x e'), ← Array.getElem?_eq_getElem]; exact hl.obj b x e'
    · exact hl.other b x (by simpa [Res.un] using e)
    · simp only [Res.un] at e
      by_cases h : b = w.heap.size ∧ 0 ≤ i
      · omega
      · rw [if_neg h] at e
        simp at e
        exact hl.above b i v e
    · exact hl.aboveO b x (by simpa [Res.un] using e)
theorem Sat.alloc {B : World} {H : HP} {w : World} (hw : Sat B H w) (c : Array Value) (t : TypeId) :
    Sat B (HP.pts w.heap.size 0 c.toList * H) (w.alloc (.cells c t)) := hw.allocM c t 0 0 (.inl rfl)
end Go.Proofs.YtgfdlpcdjklcoaaDoor
