/- Slices: read, cut, grown, made, over the small separation logic; no condition. -/
import Derived.Test.YtgfdlpcdjklcoaaDoorAny
namespace Go.Proofs.YtgfdlpcdjklcoaaDoor
open Go Go.RowKit

/-- how values of a Lean type lie in cells -/
class Lay (α : Type) where
  sz : Nat
  enc : α → List Value
  dflt : α
  len : ∀ x, (enc x).length = sz
  one : ∀ x, ∀ v ∈ enc x, v.oneCell' = true
abbrev u8 (b : UInt8) : Value := .int .u8 (b.toNat : Nat)
@[reducible] instance : Lay UInt8 := ⟨1, fun b => [u8 b], 0, fun _ => rfl, fun _ v h => by rw [List.mem_singleton.1 h]; rfl⟩
@[simp] theorem sz_u8 : Lay.sz UInt8 = 1 := rfl
@[simp] theorem enc_u8 (b : UInt8) : Lay.enc b = [u8 b] := rfl
@[simp] theorem dflt_u8 : (Lay.dflt : UInt8) = 0 := rfl
def flat {α : Type} [Lay α] (xs : List α) : List Value := xs.flatMap Lay.enc
theorem flat_length {α : Type} [Lay α] (xs : List α) : (flat xs).length = xs.length * Lay.sz α := by
  induction xs with
  | nil => simp [flat]
  | cons x xs ih => simp only [flat, List.flatMap_cons, List.length_append, Lay.len, List.length_cons] at *; rw [ih, Nat.succ_mul, Nat.add_comm]
theorem flat_append {α : Type} [Lay α] (xs ys : List α) : flat (xs ++ ys) = flat xs ++ flat ys := by simp [flat]
theorem flat_one {α : Type} [Lay α] (xs : List α) : ∀ v ∈ flat xs, v.oneCell' = true := by
  intro v h
  obtain ⟨x, _, h2⟩ := List.mem_flatMap.1 h
  exact Lay.one x v h2
theorem flat_get {α : Type} [Lay α] : ∀ (xs : List α) (i f : Nat) (v : Value), i < xs.length → (Lay.enc (xs.getD i Lay.dflt))[f]? = some v → (flat xs)[i * Lay.sz α + f]? = some v
  | [], i, f, v, h, _ => by simp at h
  | x :: xs, 0, f, v, _, h => by
    simp only [List.getD_cons_zero] at h
    have hlt : f < (Lay.enc x).length := (List.getElem?_eq_some_iff.1 h).1
    simp only [flat, List.flatMap_cons, Nat.zero_mul, Nat.zero_add]
    rw [List.getElem?_append_left hlt]; exact h
  | x :: xs, i + 1, f, v, hi, h => by
    simp only [List.getD_cons_succ] at h
    have := flat_get xs i f v (by simpa using hi) h
    simp only [flat, List.flatMap_cons] at *
    rw [List.getElem?_append_right (by rw [Lay.len, Nat.succ_mul]; omega), Lay.len, show (i + 1) * Lay.sz α + f - Lay.sz α = i * Lay.sz α + f by rw [Nat.succ_mul]; omega]
    exact this
/-- a row of values with cells to spare behind -/
def arr {α : Type} [Lay α] (b o : Nat) (xs : List α) (s : List Value) : HP := HP.pts b o (flat xs ++ s)
theorem arr_nil {α : Type} [Lay α] (b o : Nat) : arr b o ([] : List α) [] = HP.emp := by simp [arr, flat, HP.pts_nil]
theorem cell_arr {α : Type} [Lay α] {b o i f : Nat} {xs : List α} {s : List Value} {v : Value} (h : (Lay.enc (xs.getD i Lay.dflt))[f]? = some v) (r : Res) (hr : arr b o xs s r) (hi : i < xs.length) :
    r.c b (o + i * Lay.sz α + f) = some v := by
  have h1 := flat_get xs i f v hi h
  have hlt : i * Lay.sz α + f < (flat xs).length := (List.getElem?_eq_some_iff.1 h1).1
  rw [show r = _ from hr]
  simp only []
  rw [if_pos (And.intro trivial (by omega)), show o + i * Lay.sz α + f - o = i * Lay.sz α + f by omega, List.getElem?_append_left hlt, h1]
instance {α : Type} [Lay α] (b o i f : Nat) (xs : List α) (s : List Value) (v : Value) [h : Nth (Lay.enc (xs.getD i Lay.dflt)) f v] :
    Cell (arr b o xs s) b (o + i * Lay.sz α + f) v (i < xs.length) := ⟨cell_arr h.get⟩
instance {α : Type} [Lay α] (b o i : Nat) (xs : List α) (s : List Value) (v : Value) [h : Nth (Lay.enc (xs.getD i Lay.dflt)) 0 v] :
    Cell (arr b o xs s) b (o + i * Lay.sz α) v (i < xs.length) := ⟨cell_arr (f := 0) h.get⟩
instance (b o i : Nat) (xs : List UInt8) (s : List Value) : Cell (arr b o xs s) b (o + i * 1) (u8 (xs.getD i 0)) (i < xs.length) := ⟨cell_arr (f := 0) rfl⟩

/-- a slice's address, length and room fit -/
def Sl (p : Option Addr) (b o k c : Nat) : Prop := (c = 0 ∨ p = some ⟨b, o, none⟩) ∧ k ≤ c
/-- the values of a slice, by reading alone -/
class RdA {α : Type} [Lay α] (B : World) (H : HP) (b o : Nat) (xs : List α) : Prop where
  get : ∀ i f v, (Lay.enc (xs.getD i Lay.dflt))[f]? = some v → i < xs.length → ∀ w, Sat B H w → w.cell? ⟨b, o + i * Lay.sz α + f, none⟩ = some v
instance {α : Type} [Lay α] (B : World) (b o : Nat) (xs : List α) (s : List Value) : RdA B (arr b o xs s) b o xs :=
  ⟨fun _ _ v h hi _ ⟨_, r, hr, hl⟩ => hl.cell _ _ v (cell_arr h r hr hi)⟩
instance {α : Type} [Lay α] (B : World) (A C : HP) (b o : Nat) (xs : List α) [h : RdA B A b o xs] : RdA B (A * C) b o xs := ⟨fun i f v e hi w hw => h.get i f v e hi w hw.left⟩
instance {α : Type} [Lay α] (B : World) (A C : HP) (b o : Nat) (xs : List α) [h : RdA B C b o xs] : RdA B (A * C) b o xs := ⟨fun i f v e hi w hw => h.get i f v e hi w hw.right⟩
theorem rd_of {α : Type} [Lay α] {B : World} {H : HP} {b o : Nat} {xs : List α} (h : RdA B H b o xs) (i f : Nat) (v : Value) [hn : Nth (Lay.enc (xs.getD i Lay.dflt)) f v] :
    Rd B H b (o + i * Lay.sz α + f) v (i < xs.length) := ⟨fun w hw hi => h.get i f v hn.get hi w hw⟩
theorem rd_of0 {B : World} {H : HP} {b o : Nat} {xs : List UInt8} (h : RdA B H b o xs) (i : Nat) :
    Rd B H b (o + i * 1) (u8 (xs.getD i 0)) (i < xs.length) := ⟨fun w hw hi => h.get i 0 _ rfl hi w hw⟩
/-- the address of a slice of a slice -/
def sp (p : Option Addr) (c l sz : Nat) : Option Addr := if c = l then p else p.map (·.add (l * sz))
theorem sp_sl {p : Option Addr} {b o k c l h sz : Nat} (hs : Sl p b o k c) (hl : l ≤ h) (hh : h ≤ c) : Sl (sp p c l sz) b (o + l * sz) (h - l) (c - l) := by
  refine ⟨?_, by omega⟩
  by_cases e : c = l
  · left; omega
  · rcases hs.1 with h1 | h1
    · omega
    · right; rw [sp, if_neg e, h1]
      by_cases e2 : l * sz = 0 <;> simp [Addr.add, e2]
theorem RdA.sub {α : Type} [Lay α] {B : World} {H : HP} {b o : Nat} {xs : List α} (hr : RdA B H b o xs) (l h : Nat) (hh : h ≤ xs.length) : RdA B H b (o + l * Lay.sz α) ((xs.take h).drop l) := by
  refine ⟨fun i f v e hi w hw => ?_⟩
  have hi' : l + i < h := by simp at hi; omega
  have h1 : ((xs.take h).drop l).getD i Lay.dflt = xs.getD (l + i) Lay.dflt := by
    simp [List.getD, List.getElem?_drop, hi']
  rw [h1] at e
  have := hr.get (l + i) f v e (by omega) w hw
  rw [show o + l * Lay.sz α + i * Lay.sz α + f = o + (l + i) * Lay.sz α + f by rw [Nat.add_mul]; omega]
  exact this
/-- the outcome: a slice in memory of one's own -/
def IsSl {α : Type} [Lay α] (R : HP) (xs : List α) (v : Value) (H' : HP) : Prop :=
  ∃ p b o c s, v = .slice p xs.length c ∧ Sl p b o xs.length c ∧ xs.length * Lay.sz α + s.length = c * Lay.sz α ∧ H' = arr b o xs s * R

section
variable {P : Program} {B : World} {n : Nat} {E : Env} {D : Dfr} {H : HP} {d : Option Tmp} {T T' ty : TypeId} {pos : String} {af : Array Edge} {g : Option (Nat × Bool)} {x y z : Operand}

theorem v_indexAddrR {p : Option Addr} {b o k c i sz : Nat} {e : TypeId} {ik : IntKind} [hT : TyOf P T (.slice e)] [hz : SzOf P e sz] (hx : ev E x = some (.slice p k c))
    (hy : ev E y = some (.int ik i)) (hs : Sl p b o k c) (h : i < k) : Val P B n ⟨d, .indexAddr T x y, ty, pos, af, g⟩ E H (.pointer (some ⟨b, o + i * sz, none⟩)) := by
  obtain ⟨h1, h2⟩ := hs
  obtain rfl := h1.resolve_left (by omega)
  exact v_indexAddrS hx hy h
theorem bound_ok {ik : IntKind} {i m : Nat} {c : BoundsCode} (h : i ≤ m) (w : World) : (Instr.sliceBound (.int ik i) m c).run P w = .ok i w := by
  have h0 : (0 : Int) ≤ i ∧ (i : Int) ≤ m := by omega
  simp [Instr.sliceBound, asIntOf, h0]
theorem v_sliceS {p : Option Addr} {k c sz : Nat} {e : TypeId} [hT : TyOf P T (.slice e)] [hz : SzOf P e sz] (hx : ev E x = some (.slice p k c)) :
    Val P B n ⟨d, .slice T x none none none, ty, pos, af, g⟩ E H (.slice p k c) := by
  intro a w he _
  simp [execOp, he.ev hx, Instr.sliceAt, Instr.slice, Instr.sliceBounds, run_und hT.get, hz.get, Addr.add]
theorem v_sliceSl {p : Option Addr} {k c sz l : Nat} {e : TypeId} {ik : IntKind} [hT : TyOf P T (.slice e)] [hz : SzOf P e sz] (hx : ev E x = some (.slice p k c)) (hy : ev E y = some (.int ik l))
    (h : l ≤ k) : Val P B n ⟨d, .slice T x (some y) none none, ty, pos, af, g⟩ E H (.slice (sp p c l sz) (k - l) (c - l)) := by
  intro a w he _
  simp only [execOp, he.ev hx, Option.map_some, Option.map_none, he.ev hy, Instr.sliceAt, Instr.slice, Instr.sliceBounds, Sem.run_bind, run_und hT.get, Result.andThen_ok, Sem.run_pure, bound_ok h, hz.get, Option.isSome_none]
  rfl
theorem v_sliceSh {p : Option Addr} {k c sz h : Nat} {e : TypeId} {ik : IntKind} [hT : TyOf P T (.slice e)] [hz : SzOf P e sz] (hx : ev E x = some (.slice p k c)) (hy : ev E y = some (.int ik h))
    (hc : h ≤ c) : Val P B n ⟨d, .slice T x none (some y) none, ty, pos, af, g⟩ E H (.slice p h c) := by
  intro a w he _
  simp only [execOp, he.ev hx, Option.map_some, Option.map_none, he.ev hy, Instr.sliceAt, Instr.slice, Instr.sliceBounds, Sem.run_bind, run_und hT.get, Result.andThen_ok, Sem.run_pure, bound_ok hc, hz.get, Option.isSome_none]
  cases p <;> simp [Addr.add]
theorem v_sliceSlh {p : Option Addr} {k c sz l h : Nat} {e : TypeId} {ik jk : IntKind} [hT : TyOf P T (.slice e)] [hz : SzOf P e sz] (hx : ev E x = some (.slice p k c)) (hy : ev E y = some (.int ik l)) (hz' : ev E z = some (.int jk h))
    (hc : l ≤ h ∧ h ≤ c) : Val P B n ⟨d, .slice T x (some y) (some z) none, ty, pos, af, g⟩ E H (.slice (sp p c l sz) (h - l) (c - l)) := by
  intro a w he _
  simp only [execOp, he.ev hx, Option.map_some, Option.map_none, he.ev hy, he.ev hz', Instr.sliceAt, Instr.slice, Instr.sliceBounds, Sem.run_bind, run_und hT.get, Result.andThen_ok, Sem.run_pure, bound_ok hc.1, bound_ok hc.2, hz.get, Option.isSome_none]
  rfl
theorem v_sliceA {b o len : Nat} {e sz : Nat} [hT : TyOf P T (.array len e)] [hz : SzOf P e sz] (hx : ev E x = some (.pointer (some ⟨b, o, none⟩))) :
    Val P B n ⟨d, .slice T x none none none, ty, pos, af, g⟩ E H (.slice (some ⟨b, o, none⟩) len len) := by
  intro a w he _
  simp only [execOp, he.ev hx, Option.map_none, Instr.sliceAt, Instr.sliceBounds, Sem.run_bind, run_und hT.get, Instr.sureAddr, Result.andThen_ok, Sem.run_pure, hz.get]
  simp [Addr.add]
theorem v_sliceAl {b o len l : Nat} {e sz : Nat} {ik : IntKind} [hT : TyOf P T (.array len e)] [hz : SzOf P e sz] (hx : ev E x = some (.pointer (some ⟨b, o, none⟩))) (hy : ev E y = some (.int ik l)) (h : l ≤ len) :
    Val P B n ⟨d, .slice T x (some y) none none, ty, pos, af, g⟩ E H (.slice (sp (some ⟨b, o, none⟩) len l sz) (len - l) (len - l)) := by
  intro a w he _
  simp only [execOp, he.ev hx, Option.map_some, Option.map_none, he.ev hy, Instr.sliceAt, Instr.sliceBounds, Sem.run_bind, run_und hT.get, Instr.sureAddr, Result.andThen_ok, Sem.run_pure, hz.get, bound_ok h, Option.isSome_none]
  by_cases e : len = l <;> simp [sp, e]
theorem v_sliceAh {b o len h : Nat} {e sz : Nat} {ik : IntKind} [hT : TyOf P T (.array len e)] [hz : SzOf P e sz] (hx : ev E x = some (.pointer (some ⟨b, o, none⟩))) (hy : ev E y = some (.int ik h)) (hh : h ≤ len) :
    Val P B n ⟨d, .slice T x none (some y) none, ty, pos, af, g⟩ E H (.slice (some ⟨b, o, none⟩) h len) := by
  intro a w he _
  simp only [execOp, he.ev hx, Option.map_some, Option.map_none, he.ev hy, Instr.sliceAt, Instr.sliceBounds, Sem.run_bind, run_und hT.get, Instr.sureAddr, Result.andThen_ok, Sem.run_pure, hz.get, bound_ok hh]
  simp [Addr.add]
theorem v_lenA {len : Nat} {e : TypeId} [hT : TyOf P T (.array len e)] {v : Value} (hx : ev E x = some v) :
    Val P B n ⟨d, .call ⟨.builtin .len, #[x], #[T]⟩, ty, pos, af, g⟩ E H (.int .i64 len) := by
  intro a w he _
  simp [execOp, he.ev hx, resolve, invoke, builtin, Builtin.len_, run_und hT.get, goInt]
end

/-! ### append -/
section
variable {P : Program} {B : World} {α : Type} [Lay α]
/-- many cells read -/
theorem RdA.run {H : HP} {b o : Nat} {xs : List α} (h : RdA B H b o xs) {w : World} (hw : Sat B H w) : (loadCells ⟨b, o, none⟩ (xs.length * Lay.sz α)).run P w = .ok (flat xs).toArray w := by
  rw [← flat_length]
  refine run_loadCells_list w ⟨b, o, none⟩ (flat xs) fun j v e => ?_
  have hj : j < xs.length * Lay.sz α := by rw [← flat_length]; exact (List.getElem?_eq_some_iff.1 e).1
  have hpos : 0 < Lay.sz α := by rcases Nat.eq_zero_or_pos (Lay.sz α) with h0 | h0; rw [h0] at hj; omega; exact h0
  have hi : j / Lay.sz α < xs.length := (Nat.div_lt_iff_lt_mul hpos).2 hj
  have hsplit : j / Lay.sz α * Lay.sz α + j % Lay.sz α = j := Nat.div_add_mod' ..
  have hm : j % Lay.sz α < Lay.sz α := Nat.mod_lt _ hpos
  have he : (Lay.enc (xs.getD (j / Lay.sz α) Lay.dflt))[j % Lay.sz α]? = some v := by
    obtain ⟨u, hu⟩ : ∃ u, (Lay.enc (xs.getD (j / Lay.sz α) Lay.dflt))[j % Lay.sz α]? = some u := by
      rw [List.getElem?_eq_getElem (by rw [Lay.len]; exact hm)]; exact ⟨_, rfl⟩
    have := flat_get xs _ _ u hi hu
    rw [hsplit, e] at this
    rw [hu, this]
  have := h.get _ _ v he hi w hw
  rw [Nat.add_assoc, hsplit] at this
  by_cases hj0 : j = 0
  · subst hj0; simpa [Addr.add] using this
  · simpa [Addr.add, hj0] using this
/-- what an append hands back, and what it leaves -/
theorem append_run {R : HP} {b o : Nat} {p : Option Addr} {c : Nat} {xs ys : List α} {s : List Value} {sT xT : TypeId} {ats : Array TypeId} {e by_ : Nat} {ty : TypeId} {x : Value} {w : World} {z : Value}
    (hT : P.underlying sT = some (.slice e)) (ha0 : ats[0]? = some sT) (ha1 : ats[1]? = some xT) (hxT : ∀ k, P.underlying xT ≠ some (.int k)) (hxT' : ∃ d, P.underlying xT = some d)
    (hz : ∀ w, (sizeOf e).run P w = .ok (Lay.sz α) w) (hi : ∃ i, (∀ w, (typeInfo e).run P w = .ok i w) ∧ i.bytes = by_) (h0 : ∀ w, (zeroValue e).run P w = .ok z w) (hzc : z.cells.size = Lay.sz α)
    (hs : Sl p b o xs.length c) (hc : xs.length * Lay.sz α + s.length = c * Lay.sz α)
    (hlen : (Builtin.lenOf x).run P w = .ok ys.length w)
    (hx' : ∀ w', Sat B (arr b o xs s * R) w' → (Builtin.firstCells (Lay.sz α) ys.length x).run P w' = .ok (flat ys).toArray w')
    (hb : (xs.length + ys.length) * by_ ≤ 140737488355328) (hby : 0 < by_) (hw : Sat B (arr b o xs s * R) w) :
    ∃ v w', (Builtin.append_ ats ty #[.slice p xs.length c, x]).run P w = .ok v w' ∧ ∃ H', IsSl R (xs ++ ys) v H' ∧ Sat B H' w' := by
  have hcells := hx' w hw
  obtain ⟨dx, hdx⟩ := hxT'
  obtain ⟨inf, hinf, rfl⟩ := hi
  have hdx' : ∀ k, dx ≠ .int k := fun k h => hxT k (by rw [hdx, h])
  have hzero : (match dx with | .int _ => true | _ => false) = false := by cases dx <;> first | rfl | exact absurd rfl (hdx' _)
  by_cases hn : xs.length + ys.length ≤ c
  · -- in place
    by_cases hc0 : c = 0
    · have hx0 : xs = [] := List.length_eq_zero_iff.1 (by omega)
      have hy0 : ys = [] := List.length_eq_zero_iff.1 (by omega)
      subst hx0 hy0 hc0
      have hrun : (Builtin.append_ ats ty #[.slice p ([] : List α).length 0, x]).run P w = .ok (.slice p 0 0) w := by
        simp only [Builtin.append_, ha0, ha1]
        simp only [List.length_nil, Nat.add_zero] at *
        simp [run_und hT, run_und hdx, hz, hlen, hcells, flat]
        cases p <;> simp [storeCells]
      exact ⟨_, w, hrun, _, ⟨p, b, o, 0, s, rfl, hs, hc, rfl⟩, hw⟩
    · obtain rfl := hs.1.resolve_left hc0
      have hcm := Nat.mul_le_mul_right (Lay.sz α) hn
      rw [Nat.add_mul] at hcm
      have hw2 : Sat B (HP.pts b (o + xs.length * Lay.sz α + 0) s * (HP.pts b o (flat xs) * R)) w := by
        rw [HP.left_comm, ← HP.assoc, Nat.add_zero, ← flat_length, ← HP.pts_append]; exact hw
      obtain ⟨w', h1, h2⟩ := Sat.storesFrom (P := P) (flat ys) (o + xs.length * Lay.sz α) 0 s _ w (by rw [flat_length]; omega) (flat_one ys) hw2
      have ha : Addr.add ⟨b, o, none⟩ (xs.length * Lay.sz α) = ⟨b, o + xs.length * Lay.sz α, none⟩ := by
        by_cases e2 : xs.length * Lay.sz α = 0 <;> simp [Addr.add, e2]
      have hrun : (Builtin.append_ ats ty #[.slice (some ⟨b, o, none⟩) xs.length c, x]).run P w = .ok (.slice (some ⟨b, o, none⟩) (xs.length + ys.length) c) w' := by
        simp only [Builtin.append_, ha0, ha1]
        simp [run_und hT, run_und hdx, hz, hlen, hn, hcells, ha, h1]
      refine ⟨_, w', hrun, _, ⟨some ⟨b, o, none⟩, b, o, c, s.drop (flat ys).length, by rw [List.length_append], ⟨.inr rfl, by rw [List.length_append]; exact hn⟩, ?_, rfl⟩, ?_⟩
      · rw [List.length_append, List.length_drop, flat_length, Nat.add_mul]; omega
      · unfold arr
        rw [flat_append, List.append_assoc, HP.pts_append, HP.assoc, HP.left_comm, flat_length xs, ← Nat.add_zero (o + xs.length * Lay.sz α)]
        exact h2
  · -- a new row
    have hby0 : ¬ inf.bytes = 0 := by omega
    have hg : ¬ 281474976710656 < Builtin.nextslicecap (xs.length + ys.length) c * inf.bytes := by
      have := growslice_fits (old := c) (by omega) hb; omega
    have hfo : (Question.appendCap (xs.length + ys.length) c e).forced = false := rfl
    have hold : (Builtin.firstCells (Lay.sz α) xs.length (.slice p xs.length c)).run P w.drew = .ok (flat xs).toArray w.drew := by
      have hwd : Sat B (arr b o xs s * R) w.drew := hw.drewN
      rcases hs.1 with h1 | rfl
      · have hx0 : xs = [] := List.length_eq_zero_iff.1 (by have := hs.2; omega)
        subst hx0
        cases p <;> simp [Builtin.firstCells, flat, loadCells, loadCellsFrom]
      · simp only [Builtin.firstCells]
        exact RdA.run (H := arr b o xs s * R) inferInstance hwd
    have hnew := hx' w.drew hw.drewN
    obtain ⟨N, hN⟩ : ∃ N, N = (Question.appendCap (xs.length + ys.length) c e).cut (w.tape w.drawn (Question.appendCap (xs.length + ys.length) c e)) := ⟨_, rfl⟩
    have hle : xs.length + ys.length ≤ N := by rw [hN]; simp [Question.cut]
    have hrun : (Builtin.append_ ats ty #[.slice p xs.length c, x]).run P w = .ok (.slice (some ⟨w.heap.size, 0, none⟩) (xs.length + ys.length) N)
        (w.drew.alloc (.cells ((flat xs).toArray ++ ((flat ys).toArray ++ Builtin.zeroCells z.cells (N - (xs.length + ys.length)))) e)) := by
      simp only [Builtin.append_, ha0, ha1]
      simp [run_und hT, run_und hdx, hz, hlen, hn, hinf, hby0, hg, hfo, hold, hnew, h0, newRow, ← hN]
    have hcm := Nat.mul_le_mul_right (Lay.sz α) hle
    have hall := (show Sat B (arr b o xs s * R) w.drew from hw.drewN).alloc ((flat xs).toArray ++ ((flat ys).toArray ++ Builtin.zeroCells z.cells (N - (xs.length + ys.length)))) e
    refine ⟨_, _, hrun, _, ⟨some ⟨w.heap.size, 0, none⟩, w.heap.size, 0, N, (Builtin.zeroCells z.cells (N - (xs.length + ys.length))).toList, by rw [List.length_append], ⟨.inr rfl, by rw [List.length_append]; exact hle⟩, ?_, rfl⟩, ?_⟩
    · have e1 : (Builtin.zeroCells z.cells (N - (xs.length + ys.length))).toList.length = (N - (xs.length + ys.length)) * Lay.sz α := by rw [← hzc]; simp [Builtin.zeroCells]
      rw [List.length_append, e1, Nat.sub_mul]; omega
    · have e2 : ((flat xs).toArray ++ ((flat ys).toArray ++ Builtin.zeroCells z.cells (N - (xs.length + ys.length)))).toList = flat xs ++ (flat ys ++ (Builtin.zeroCells z.cells (N - (xs.length + ys.length))).toList) := by simp
      rw [e2, HP.left_comm] at hall
      unfold arr
      rw [flat_append, List.append_assoc]
      exact hall.right
/-- an append of a slice's values -/
theorem e_append {n : Nat} {E : Env} {D : Dfr} {R : HP} {d : Option Tmp} {sT xT ty e by_ : Nat} {pos : String} {af : Array Edge} {g : Option (Nat × Bool)} {x y : Operand} {b o bb oo cc c : Nat} {p pp : Option Addr}
    {xs ys : List α} {s : List Value} {z : Value} [hT : TyOf P sT (.slice e)] [hT2 : TyOf P xT (.slice e)] [hz : SzOf P e (Lay.sz α)] [hi : InfoOf P e by_] [h0 : ZeroOf P e z]
    (hx : ev E x = some (.slice p xs.length c)) (hs : Sl p b o xs.length c) (hc : xs.length * Lay.sz α + s.length = c * Lay.sz α)
    (hy : ev E y = some (.slice pp ys.length cc)) (hs2 : Sl pp bb oo ys.length cc) (hr : RdA B (arr b o xs s * R) bb oo ys) (hzc : z.cells.size = Lay.sz α)
    (hb : (xs.length + ys.length) * by_ ≤ 140737488355328) (hby : 0 < by_) :
    Eff P B n ⟨d, .call ⟨.builtin .append, #[x, y], #[sT, xT]⟩, ty, pos, af, g⟩ E D (arr b o xs s * R) (fun v H' => IsSl R (xs ++ ys) v H') := by
  intro a w h1 _ h3 K Q hk
  have hf : ∀ w', Sat B (arr b o xs s * R) w' → (Builtin.firstCells (Lay.sz α) ys.length (.slice pp ys.length cc)).run P w' = .ok (flat ys).toArray w' := by
    intro w' hw'
    rcases hs2.1 with h4 | rfl
    · have hx0 : ys = [] := List.length_eq_zero_iff.1 (by have := hs2.2; omega)
      subst hx0
      cases pp <;> simp [Builtin.firstCells, flat, loadCells, loadCellsFrom]
    · simp only [Builtin.firstCells]; exact hr.run hw'
  obtain ⟨v, w', hrun, H', hH, hw'⟩ := append_run (P := P) (B := B) (R := R) (b := b) (o := o) (p := p) (c := c) (xs := xs) (ys := ys) (s := s) (sT := sT) (xT := xT) (ats := #[sT, xT]) (e := e) (by_ := by_) (ty := ty)
    (x := .slice pp ys.length cc) (w := w) (z := z) hT.get rfl rfl (fun k h => by rw [hT2.get] at h; cases h) ⟨_, hT2.get⟩ hz.get hi.get h0.get hzc hs hc rfl
    (fun w2 hw2 => hf w2 hw2) hb hby h3
  have hrun2 : (execOp a.eval ⟨d, .call ⟨.builtin .append, #[x, y], #[sT, xT]⟩, ty, pos, af, g⟩).run P w = .ok (.value v) w' := by
    simp [execOp, resolve, h1.ev hx, h1.ev hy, invoke, builtin, hrun]
  simp only [Oper.wp, hrun2, Oper.upon]
  exact hk v H' w' hH hw'
end
end Go.Proofs.YtgfdlpcdjklcoaaDoor
