/- Frames in memory; no condition. -/
import Derived.Test.YtgfdlpcdjklcoaaDoorWire
import Derived.Test.YtgfdlpcdjklcoaaDoorPan
namespace Go.Proofs.YtgfdlpcdjklcoaaDoor
open Go Go.RowKit
set_option linter.unusedVariables false
/-- a frame, and where its ranges lie -/
structure RF where
  f : Frm
  p : Option Addr
  b : Nat
  o : Nat
  c : Nat
  s : List Value
@[reducible] def encRF (r : RF) : List Value := [.int .i64 r.f.kind, .int .i64 r.f.stream, uN r.f.offset, uN r.f.code, .bool r.f.fin, .string r.f.data, .slice r.p r.f.ranges.length r.c]
@[reducible] instance : Lay RF := ⟨7, encRF, ⟨⟨0, 0, 0, 0, false, ⟨#[]⟩, []⟩, none, 0, 0, 0, []⟩, fun _ => rfl, fun _ v h => by
  simp at h; rcases h with rfl | rfl | rfl | rfl | rfl | rfl | rfl <;> rfl⟩
def RF.ok (r : RF) : Prop := Sl r.p r.b r.o r.f.ranges.length r.c
def RF.own (r : RF) : Prop := r.f.ranges.length * 2 + r.s.length = r.c * 2
def OwnR (r : RF) : HP := arr r.b r.o r.f.ranges r.s
def OwnRs (rs : List RF) : HP := rs.foldr (fun r H => OwnR r * H) HP.emp
theorem OwnRs_nil : OwnRs [] = HP.emp := rfl
theorem OwnRs_cons (r : RF) (rs : List RF) : OwnRs (r :: rs) = OwnR r * OwnRs rs := rfl
theorem OwnRs_append (rs ts : List RF) : OwnRs (rs ++ ts) = OwnRs rs * OwnRs ts := by
  induction rs with
  | nil => rw [List.nil_append, OwnRs_nil, HP.emp_mul]
  | cons r rs ih => rw [List.cons_append, OwnRs_cons, OwnRs_cons, ih, HP.assoc]
theorem OwnRs_mem {r : RF} {rs : List RF} (h : r ∈ rs) : ∃ X, OwnRs rs = OwnR r * X := by
  induction rs with
  | nil => cases h
  | cons t rs ih =>
    rcases List.mem_cons.1 h with rfl | h
    · exact ⟨_, rfl⟩
    · obtain ⟨X, e⟩ := ih h
      exact ⟨OwnR t * X, by rw [OwnRs_cons, e, HP.left_comm]⟩
theorem own_rd {B : World} {r : RF} {rs : List RF} (h : r ∈ rs) : RdA B (OwnRs rs) r.b r.o r.f.ranges := by
  obtain ⟨X, e⟩ := OwnRs_mem h
  rw [e]
  show RdA B (arr r.b r.o r.f.ranges r.s * X) r.b r.o r.f.ranges
  infer_instance
/-- a list of frames in memory, to be read -/
structure RdFs (B : World) (H : HP) (p : Option Addr) (c : Nat) (fs : List Frm) (b o : Nat) (rs : List RF) : Prop where
  sl : Sl p b o fs.length c
  rd : RdA B H b o rs
  map : rs.map (·.f) = fs
  ok : ∀ r ∈ rs, r.ok
  rds : ∀ r ∈ rs, RdA B H r.b r.o r.f.ranges
theorem RdFs.len {B : World} {H : HP} {p : Option Addr} {c : Nat} {fs : List Frm} {b o : Nat} {rs : List RF} (h : RdFs B H p c fs b o rs) : rs.length = fs.length := by rw [← h.map, List.length_map]
theorem RdFs.right {B : World} {A C : HP} {p : Option Addr} {c : Nat} {fs : List Frm} {b o : Nat} {rs : List RF} (h : RdFs B C p c fs b o rs) : RdFs B (A * C) p c fs b o rs :=
  ⟨h.sl, (let _ := h.rd; inferInstance), h.map, h.ok, fun r hr => (let _ := h.rds r hr; inferInstance)⟩
theorem RdFs.left {B : World} {A C : HP} {p : Option Addr} {c : Nat} {fs : List Frm} {b o : Nat} {rs : List RF} (h : RdFs B A p c fs b o rs) : RdFs B (A * C) p c fs b o rs :=
  ⟨h.sl, (let _ := h.rd; inferInstance), h.map, h.ok, fun r hr => (let _ := h.rds r hr; inferInstance)⟩
/-- a list of frames of one's own -/
def IsFs (R : HP) (fs : List Frm) (v : Value) (H' : HP) : Prop :=
  ∃ p b o c s rs, v = .slice p fs.length c ∧ Sl p b o fs.length c ∧ fs.length * 7 + s.length = c * 7 ∧ rs.map RF.f = fs ∧ (∀ r ∈ rs, r.ok ∧ r.own) ∧ H' = arr b o rs s * (OwnRs rs * R)
theorem IsFs.rd {B : World} {R : HP} {p : Option Addr} {b o c : Nat} {s : List Value} {fs : List Frm} {rs : List RF} (h1 : Sl p b o fs.length c) (h2 : rs.map RF.f = fs) (h3 : ∀ r ∈ rs, r.ok ∧ r.own) :
    RdFs B (arr b o rs s * (OwnRs rs * R)) p c fs b o rs :=
  ⟨h1, inferInstance, h2, fun r hr => (h3 r hr).1, fun r hr => by
    have := own_rd (B := B) hr
    infer_instance⟩
theorem IsFs.nil (R : HP) : IsFs R [] (.slice none 0 0) R := ⟨none, 0, 0, 0, [], [], rfl, ⟨.inl rfl, Nat.le_refl _⟩, rfl, rfl, (fun _ h => by simp at h), by rw [arr_nil, OwnRs_nil, HP.emp_mul, HP.emp_mul]⟩
end Go.Proofs.YtgfdlpcdjklcoaaDoor
