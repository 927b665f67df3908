/- Pieces of memory and assertions on them: a small separation logic over the model's worlds; no condition. -/
import Derived.WalkKit
import Derived.OrdersHeld
namespace Go.Proofs.YtgfdlpcdjklcoaaDoor
open Go Go.RowKit

/-- a piece of memory: cells (block, offset) and whole objects -/
structure Res where
  c : Nat → Nat → Option Value
  o : Nat → Option Obj

namespace Res
@[ext] theorem ext {r s : Res} (h1 : ∀ b i, r.c b i = s.c b i) (h2 : ∀ b, r.o b = s.o b) : r = s := by
  cases r; cases s
  simp only [Res.mk.injEq]
  exact ⟨funext fun b => funext fun i => h1 b i, funext h2⟩
def nil : Res := ⟨fun _ _ => none, fun _ => none⟩
def un (r s : Res) : Res := ⟨fun b i => (r.c b i).or (s.c b i), fun b => (r.o b).or (s.o b)⟩
def dj (r s : Res) : Prop := (∀ b i, r.c b i = none ∨ s.c b i = none) ∧ (∀ b, r.o b = none ∨ s.o b = none)
theorem dj.symm {r s : Res} (h : r.dj s) : s.dj r := ⟨fun b i => (h.1 b i).symm, fun b => (h.2 b).symm⟩
theorem un_comm {r s : Res} (h : r.dj s) : r.un s = s.un r := by
  apply ext
  · intro b i; simp only [un]; rcases h.1 b i with e | e <;> simp [e]
  · intro b; simp only [un]; rcases h.2 b with e | e <;> simp [e]
theorem un_assoc (r s t : Res) : (r.un s).un t = r.un (s.un t) := by
  apply ext <;> intros <;> simp [un, Option.or_assoc]
theorem nil_un (r : Res) : nil.un r = r := by apply ext <;> intros <;> simp [un, nil]
theorem un_nil (r : Res) : r.un nil = r := by apply ext <;> intros <;> simp [un, nil]
theorem nil_dj (r : Res) : nil.dj r := ⟨fun _ _ => .inl rfl, fun _ => .inl rfl⟩
theorem dj_un {r s t : Res} : r.dj (s.un t) ↔ r.dj s ∧ r.dj t := by
  constructor
  · intro h
    refine ⟨⟨fun b i => ?_, fun b => ?_⟩, ⟨fun b i => ?_, fun b => ?_⟩⟩
    · rcases h.1 b i with e | e; exact .inl e; simp [un] at e; exact .inr e.1
    · rcases h.2 b with e | e; exact .inl e; simp [un] at e; exact .inr e.1
    · rcases h.1 b i with e | e; exact .inl e; simp [un] at e; exact .inr e.2
    · rcases h.2 b with e | e; exact .inl e; simp [un] at e; exact .inr e.2
  · rintro ⟨h1, h2⟩
    refine ⟨fun b i => ?_, fun b => ?_⟩
    · rcases h1.1 b i with e | e; exact .inl e
      rcases h2.1 b i with e' | e'; exact .inl e'
      exact .inr (by simp [un, e, e'])
    · rcases h1.2 b with e | e; exact .inl e
      rcases h2.2 b with e' | e'; exact .inl e'
      exact .inr (by simp [un, e, e'])
theorem un_dj {r s t : Res} : (r.un s).dj t ↔ r.dj t ∧ s.dj t :=
  ⟨fun h => let ⟨a, b⟩ := dj_un.1 h.symm; ⟨a.symm, b.symm⟩, fun ⟨a, b⟩ => (dj_un.2 ⟨a.symm, b.symm⟩).symm⟩
end Res

/-- an assertion on a piece of memory -/
def HP : Type := Res → Prop

namespace HP
theorem ext {A B : HP} (h : ∀ r, A r ↔ B r) : A = B := funext fun r => propext (h r)
def emp : HP := fun r => r = Res.nil
def sep (A B : HP) : HP := fun r => ∃ x y, Res.dj x y ∧ r = x.un y ∧ A x ∧ B y
def ex {α : Type} (P : α → HP) : HP := fun r => ∃ x, P x r
def pr (p : Prop) : HP := fun r => p ∧ r = Res.nil
end HP
instance : Mul HP := ⟨HP.sep⟩
namespace HP
theorem mul_iff {A B : HP} {r : Res} : (A * B) r ↔ ∃ x y, Res.dj x y ∧ r = x.un y ∧ A x ∧ B y := Iff.rfl
theorem comm (A B : HP) : A * B = B * A := by
  apply ext; intro r
  constructor
  · rintro ⟨x, y, h, rfl, a, b⟩; exact ⟨y, x, h.symm, Res.un_comm h, b, a⟩
  · rintro ⟨x, y, h, rfl, a, b⟩; exact ⟨y, x, h.symm, Res.un_comm h, b, a⟩
theorem assoc (A B C : HP) : A * B * C = A * (B * C) := by
  apply ext; intro r
  constructor
  · rintro ⟨_, z, h, rfl, ⟨x, y, h2, rfl, a, b⟩, c⟩
    obtain ⟨h3, h4⟩ := Res.un_dj.1 h
    exact ⟨x, y.un z, Res.dj_un.2 ⟨h2, h3⟩, Res.un_assoc .., a, y, z, h4, rfl, b, c⟩
  · rintro ⟨x, _, h, rfl, a, y, z, h2, rfl, b, c⟩
    obtain ⟨h3, h4⟩ := Res.dj_un.1 h
    exact ⟨x.un y, z, Res.un_dj.2 ⟨h4, h2⟩, (Res.un_assoc ..).symm, ⟨x, y, h3, rfl, a, b⟩, c⟩
theorem left_comm (A B C : HP) : A * (B * C) = B * (A * C) := by
  rw [← assoc, comm A B, assoc]
instance : Std.Commutative (α := HP) (· * ·) := ⟨comm⟩
instance : Std.Associative (α := HP) (· * ·) := ⟨assoc⟩
@[simp] theorem emp_mul (A : HP) : emp * A = A := by
  apply ext; intro r
  constructor
  · rintro ⟨_, y, _, rfl, rfl, b⟩; rw [Res.nil_un]; exact b
  · intro h; exact ⟨Res.nil, r, Res.nil_dj r, (Res.nil_un r).symm, rfl, h⟩
@[simp] theorem mul_emp (A : HP) : A * emp = A := by rw [comm, emp_mul]
theorem ex_mul {α : Type} (P : α → HP) (B : HP) : ex P * B = ex fun x => P x * B := by
  apply ext; intro r
  constructor
  · rintro ⟨x, y, h, rfl, ⟨z, a⟩, b⟩; exact ⟨z, x, y, h, rfl, a, b⟩
  · rintro ⟨z, x, y, h, rfl, a, b⟩; exact ⟨x, y, h, rfl, ⟨z, a⟩, b⟩
theorem mul_ex {α : Type} (P : α → HP) (B : HP) : B * ex P = ex fun x => B * P x := by
  rw [comm, ex_mul]; congr 1; funext x; exact comm ..
theorem pr_mul {p : Prop} {A : HP} {r : Res} : (pr p * A) r ↔ p ∧ A r := by
  constructor
  · rintro ⟨x, y, h, rfl, ⟨hp, rfl⟩, a⟩; rw [Res.nil_un]; exact ⟨hp, a⟩
  · rintro ⟨hp, a⟩; exact ⟨Res.nil, r, Res.nil_dj r, (Res.nil_un r).symm, ⟨hp, rfl⟩, a⟩
/-- cells from an offset on -/
def pts (b o : Nat) (l : List Value) : HP := fun r => r = ⟨fun b' i => if b' = b ∧ o ≤ i then l[i - o]? else none, fun _ => none⟩
/-- a whole object -/
def obj (b : Nat) (x : Obj) : HP := fun r => r = ⟨fun _ _ => none, fun b' => if b' = b then some x else none⟩
theorem pts_nil (b o : Nat) : pts b o [] = emp := by
  apply ext; intro r
  simp [pts, emp, Res.nil]
theorem pts_append (b o : Nat) (l m : List Value) : pts b o (l ++ m) = pts b o l * pts b (o + l.length) m := by
  apply ext; intro r
  constructor
  · intro h
    refine ⟨_, _, ⟨fun b' i => ?_, fun _ => .inl rfl⟩, ?_, rfl, rfl⟩
    · by_cases h1 : b' = b ∧ o ≤ i
      · by_cases h2 : i - o < l.length
        · refine .inr ?_; simp only []; rw [if_neg]; omega
        · refine .inl ?_; simp only []; rw [if_pos h1]; exact List.getElem?_eq_none (by omega)
      · exact .inl (if_neg h1)
    · rw [h]
      apply Res.ext
      · intro b' i
        simp only [Res.un]
        by_cases h1 : b' = b ∧ o ≤ i
        · rw [if_pos h1, if_pos h1]
          by_cases h2 : i - o < l.length
          · rw [List.getElem?_append_left h2, List.getElem?_eq_getElem h2]; rfl
          · rw [List.getElem?_append_right (by omega), if_pos ⟨h1.1, by omega⟩, List.getElem?_eq_none (l := l) (by omega)]
            simp only [Option.none_or]
            congr 1; omega
        · rw [if_neg h1, if_neg h1, if_neg (by omega)]; rfl
      · intro b'; rfl
  · rintro ⟨x, y, _, rfl, rfl, rfl⟩
    apply Res.ext
    · intro b' i
      simp only [Res.un]
      by_cases h1 : b' = b ∧ o ≤ i
      · rw [if_pos h1, if_pos h1]
        by_cases h2 : i - o < l.length
        · rw [List.getElem?_append_left h2, List.getElem?_eq_getElem h2]; rfl
        · rw [List.getElem?_append_right (by omega), if_pos ⟨h1.1, by omega⟩, List.getElem?_eq_none (l := l) (by omega)]
          simp only [Option.none_or]
          congr 1; omega
      · rw [if_neg h1, if_neg h1, if_neg (by omega)]; rfl
    · intro b'; rfl
end HP

/-- the piece lies in the world, in blocks from n on; no cell of it is frozen -/
structure Res.lies (n : Nat) (r : Res) (w : World) : Prop where
  cell : ∀ b i v, r.c b i = some v → w.cell? ⟨b, i, none⟩ = some v
  free : ∀ b i v, r.c b i = some v → w.frozen? ⟨b, i, none⟩ = false
  obj : ∀ b x, r.o b = some x → w.heap[b]? = some x
  other : ∀ b x, r.o b = some x → ∀ c t f, x ≠ .cells c t f
  above : ∀ b i v, r.c b i = some v → n ≤ b
  aboveO : ∀ b x, r.o b = some x → n ≤ b

/-- the world is as the base world below the base's size, and holds the assertion above it -/
def Sat (B : World) (H : HP) (w : World) : Prop := Below B.heap.size B w ∧ ∃ r, H r ∧ r.lies B.heap.size w

theorem Res.lies.left {n : Nat} {r s : Res} {w : World} (h : (r.un s).lies n w) : r.lies n w := by
  refine ⟨fun b i v e => h.cell b i v ?_, fun b i v e => h.free b i v ?_, fun b x e => h.obj b x ?_, fun b x e => h.other b x ?_, fun b i v e => h.above b i v ?_, fun b x e => h.aboveO b x ?_⟩ <;> simp [Res.un, e]
theorem Sat.left {B : World} {A C : HP} {w : World} (h : Sat B (A * C) w) : Sat B A w := by
  obtain ⟨h1, r, ⟨x, y, hd, rfl, a, c⟩, h2⟩ := h
  exact ⟨h1, x, a, h2.left⟩
theorem Sat.right {B : World} {A C : HP} {w : World} (h : Sat B (A * C) w) : Sat B C w := by
  rw [HP.comm] at h; exact h.left
theorem Sat.start (B : World) : Sat B HP.emp B :=
  ⟨Below.refl _ _, Res.nil, rfl, ⟨(fun _ _ _ h => by cases h), (fun _ _ _ h => by cases h), (fun _ _ h => by cases h), (fun _ _ h => by cases h), (fun _ _ _ h => by cases h), (fun _ _ h => by cases h)⟩⟩
theorem Sat.emp {B : World} {A : HP} {w : World} (h : Sat B A w) : Sat B HP.emp w := by
  refine Sat.left (C := A) ?_; rw [HP.emp_mul]; exact h
theorem Sat.drewN {B : World} {A : HP} {w : World} (h : Sat B A w) : Sat B A { w with drawn := w.drawn + 1 } := by
  obtain ⟨⟨a, b, c, d, e⟩, r, hr, h2⟩ := h
  exact ⟨⟨a, b, c, d, e⟩, r, hr, ⟨h2.cell, h2.free, h2.obj, h2.other, h2.above, h2.aboveO⟩⟩
theorem Sat.ex {B : World} {α : Type} {P : α → HP} {w : World} : Sat B (HP.ex P) w ↔ ∃ x, Sat B (P x) w :=
  ⟨fun ⟨h1, r, ⟨x, hx⟩, h2⟩ => ⟨x, h1, r, hx, h2⟩, fun ⟨x, h1, r, hx, h2⟩ => ⟨h1, r, ⟨x, hx⟩, h2⟩⟩
theorem Sat.pr {B : World} {p : Prop} {A : HP} {w : World} : Sat B (HP.pr p * A) w ↔ p ∧ Sat B A w :=
  ⟨fun ⟨h1, r, hr, h2⟩ => let ⟨hp, ha⟩ := HP.pr_mul.1 hr; ⟨hp, h1, r, ha, h2⟩, fun ⟨hp, h1, r, hr, h2⟩ => ⟨h1, r, HP.pr_mul.2 ⟨hp, hr⟩, h2⟩⟩
end Go.Proofs.YtgfdlpcdjklcoaaDoor
