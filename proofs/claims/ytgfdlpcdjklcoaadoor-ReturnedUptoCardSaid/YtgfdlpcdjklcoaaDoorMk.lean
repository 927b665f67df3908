/- Rules for literals of arrays, structs and slices; no condition. -/
import Derived.Test.YtgfdlpcdjklcoaaDoorMore
namespace Go.Proofs.YtgfdlpcdjklcoaaDoor
open Go Go.RowKit

def findP : List (Nat × Operand) → Nat → Option Operand
  | [], _ => none
  | (i, x) :: r, k => bif Nat.beq i k then some x else findP r k
/-- the cells of a literal: what is given, else the zero value's -/
def mkCs (E : Env) (ps : List (Nat × Operand)) : Nat → List Value → Option (List Value)
  | _, [] => some []
  | k, z :: zs => match findP ps k with
    | some x => match ev E x with
      | some v => match mkCs E ps (k + 1) zs with
        | some r => some (v :: r)
        | none => none
      | none => none
    | none => match mkCs E ps (k + 1) zs with
      | some r => some (z :: r)
      | none => none
theorem mkCs_get {E : Env} {ps : List (Nat × Operand)} : ∀ {zs : List Value} {k : Nat} {cs : List Value}, mkCs E ps k zs = some cs → cs.length = zs.length ∧ ∀ j, j < zs.length →
    match findP ps (k + j) with
    | some x => ∃ v, ev E x = some v ∧ cs[j]? = some v
    | none => cs[j]? = zs[j]?
  | [], k, cs, h => by simp only [mkCs, Option.some.injEq] at h; subst h; exact ⟨rfl, fun j hj => by simp at hj⟩
  | z :: zs, k, cs, h => by
    simp only [mkCs] at h
    cases hr : mkCs E ps (k + 1) zs with
    | none => simp only [hr] at h; split at h <;> first | (split at h <;> cases h) | cases h
    | some r =>
      obtain ⟨h1, h2⟩ := mkCs_get hr
      simp only [hr] at h
      cases hf : findP ps k with
      | none =>
        simp only [hf, Option.some.injEq] at h
        subst h
        refine ⟨by simp [h1], fun j hj => ?_⟩
        cases j with
        | zero => simp [hf]
        | succ j =>
          have := h2 j (by simpa using hj)
          rw [show k + 1 + j = k + (j + 1) by omega] at this
          simpa using this
      | some x =>
        simp only [hf] at h
        cases hx : ev E x with
        | none => simp [hx] at h
        | some v =>
          simp only [hx, Option.some.injEq] at h
          subst h
          refine ⟨by simp [h1], fun j hj => ?_⟩
          cases j with
          | zero => simp only [Nat.add_zero, hf]; exact ⟨v, hx, rfl⟩
          | succ j =>
            have := h2 j (by simpa using hj)
            rw [show k + 1 + j = k + (j + 1) by omega] at this
            simpa using this
theorem fill_one (place : Nat → Option (Nat × Nat)) : ∀ (vs : List (Nat × Value)) (cells : Array Value), (∀ p ∈ vs, place p.1 = some (p.1, 1) ∧ p.1 < cells.size ∧ p.2.oneCell' = true) →
    Instr.fill place cells vs = some (vs.foldl (fun cs p => cs.setIfInBounds p.1 p.2) cells)
  | [], _, _ => rfl
  | (i, v) :: vs, cells, h => by
    obtain ⟨h1, h2, h3⟩ := h (i, v) (by simp)
    have hc : v.cells = #[v] := by cases v <;> first | rfl | cases h3
    simp only at h1 h2
    simp only [Instr.fill, h1, hc]
    rw [if_neg (by simp; omega)]
    have e : (#[v].zipIdx.foldl (fun cs (c, j) => cs.setIfInBounds (i + j) c) cells) = cells.setIfInBounds i v := by simp
    rw [e, fill_one place vs _ (fun p hp => by
      obtain ⟨a, b, c⟩ := h p (by simp [hp])
      exact ⟨a, by simpa using b, c⟩)]
    rfl
theorem foldl_sets (vs : List (Nat × Value)) : ∀ (cells : Array Value) (k : Nat), (vs.map Prod.fst).Nodup → (vs.foldl (fun cs p => cs.setIfInBounds p.1 p.2) cells)[k]? =
    match vs.find? (fun p => p.1 == k) with
    | some p => if k < cells.size then some p.2 else none
    | none => cells[k]? := by
  induction vs with
  | nil => intro cells k _; rfl
  | cons p vs ih =>
    intro cells k hn
    simp only [List.map_cons, List.nodup_cons] at hn
    simp only [List.foldl_cons]
    rw [ih _ k hn.2]
    by_cases hk : p.1 = k
    · have hnone : vs.find? (fun q => q.1 == k) = none := by
        rw [List.find?_eq_none]
        intro q hq hqk
        exact hn.1 (by rw [hk]; simp at hqk; rw [← hqk]; exact List.mem_map_of_mem hq)
      simp [hnone, hk, Array.getElem?_setIfInBounds]
    · have : (p.1 == k) = false := by simp [hk]
      simp only [List.find?_cons, this]
      cases vs.find? (fun q => q.1 == k) with
      | none => simp [Array.getElem?_setIfInBounds_ne hk]
      | some q => simp
/-- what the operands of a literal yield -/
theorem fill_mk {n : Nat} {E : Env} {a : Act} {ps : List (Nat × Operand)} {zs cs : List Value} (he : EOk n E a) (place : Nat → Option (Nat × Nat)) (h : mkCs E ps 0 zs = some cs)
    (hn : (ps.map Prod.fst).Nodup) (hb : ∀ i ∈ ps.map Prod.fst, i < zs.length) (hp : ∀ i, i < zs.length → place i = some (i, 1)) (ho : ∀ v ∈ cs, v.oneCell' = true) :
    Instr.fill place zs.toArray (ps.map fun (i, x) => (i, a.eval x)) = some cs.toArray := by
  obtain ⟨hl, hg⟩ := mkCs_get h
  have hfind : ∀ (ps : List (Nat × Operand)) (k : Nat), (ps.map fun (i, x) => (i, a.eval x)).find? (fun p => p.1 == k) = (findP ps k).map fun x => (k, a.eval x) := by
    intro ps k
    induction ps with
    | nil => rfl
    | cons q r ih =>
      obtain ⟨i, x⟩ := q
      simp only [List.map_cons, List.find?_cons, findP]
      cases hb : Nat.beq i k with
      | true => obtain rfl := Nat.eq_of_beq_eq_true hb; simp
      | false =>
        have : (i == k) = false := by rw [beq_eq_false_iff_ne]; intro h; subst h; simp at hb
        simp only [this, cond_false]; exact ih
  have hfst : (ps.map fun (i, x) => (i, a.eval x)).map Prod.fst = ps.map Prod.fst := by rw [List.map_map]; rfl
  have hmem : ∀ (ps : List (Nat × Operand)) (i : Nat) (x : Operand), (ps.map Prod.fst).Nodup → (i, x) ∈ ps → findP ps i = some x := by
    intro ps i x hn hm
    induction ps with
    | nil => simp at hm
    | cons q r ih =>
      obtain ⟨j, y⟩ := q
      simp only [List.map_cons, List.nodup_cons] at hn
      rcases List.mem_cons.1 hm with h1 | h1
      · cases h1; simp [findP]
      · have hne : Nat.beq j i = false := by
          cases hb : Nat.beq j i with
          | false => rfl
          | true =>
            obtain rfl := Nat.eq_of_beq_eq_true hb
            exact absurd (List.mem_map_of_mem (f := Prod.fst) h1) hn.1
        simp only [findP, hne, cond_false]
        exact ih hn.2 h1
  rw [fill_one place]
  · congr 1
    apply Array.ext_getElem?
    intro k
    rw [foldl_sets _ _ _ (by rw [hfst]; exact hn), hfind]
    rcases Nat.lt_or_ge k zs.length with hk | hk
    · have := hg k hk
      rw [Nat.zero_add] at this
      cases hf : findP ps k with
      | none => rw [hf] at this; simpa using this.symm
      | some x =>
        rw [hf] at this
        obtain ⟨v, h1, h2⟩ := this
        simp [hk, he.ev h1, h2]
    · have h1 : cs.toArray[k]? = none := by simp; omega
      rw [h1]
      cases hf : findP ps k with
      | none => simpa using hk
      | some x => simp; omega
  · intro p hp'
    obtain ⟨⟨i, x⟩, hm, rfl⟩ := List.mem_map.1 hp'
    have hi := hb i (List.mem_map_of_mem (f := Prod.fst) hm)
    refine ⟨hp i hi, by simpa using hi, ?_⟩
    have := hg i hi
    rw [Nat.zero_add, hmem ps i x hn hm] at this
    obtain ⟨v, h1, h2⟩ := this
    simp only [he.ev h1]
    exact ho v (List.mem_of_getElem? h2)
/-- the indices of a literal's parts -/
def idxOk (ps : List (Nat × Operand)) (m : Nat) : Bool := decide ((ps.map Prod.fst).Nodup) && ps.all fun p => Nat.blt p.1 m
theorem idxOk_spec {ps : List (Nat × Operand)} {m : Nat} (h : idxOk ps m = true) : (ps.map Prod.fst).Nodup ∧ ∀ i ∈ ps.map Prod.fst, i < m := by
  simp only [idxOk, Bool.and_eq_true, decide_eq_true_eq, List.all_eq_true] at h
  refine ⟨h.1, fun i hi => ?_⟩
  obtain ⟨p, hp, rfl⟩ := List.mem_map.1 hi
  simpa using h.2 p hp
section
variable {P : Program} {B : World} {n : Nat} {E : Env} {D : Dfr} {H : HP} {d : Option Tmp} {T T' ty : TypeId} {pos : String} {af : Array Edge} {g : Option (Nat × Bool)} {x y z : Operand}
theorem v_mkA {len e : Nat} {zs cs : List Value} {ps : List (Nat × Operand)} [hT : TyOf P T (.array len e)] [hs : SzOf P e 1] [hz : ZeroOf P T (.agg zs.toArray)]
    (hx : mkCs E ps 0 zs = some cs) (hi : idxOk ps zs.length = true) (ho : ∀ v ∈ cs, v.oneCell' = true) : Val P B n ⟨d, .build T ps.toArray, ty, pos, af, g⟩ E H (.agg cs.toArray) := by
  intro a w he _
  obtain ⟨h1, h2⟩ := idxOk_spec hi
  have hf := fill_mk he (fun i => some (i * 1, 1)) hx h1 h2 (fun i _ => by rw [Nat.mul_one]) ho
  simp only [execOp, Instr.build, Sem.run_bind, hz.get, Result.andThen_ok, run_und hT.get, hs.get, List.map_toArray, Value.cells, hf, Sem.run_pure]
theorem v_mkS {pl : Array (Nat × Nat)} {zs cs : List Value} {ps : List (Nat × Operand)} [hT : StructPl P T pl] [hz : ZeroOf P T (.agg zs.toArray)]
    (hx : mkCs E ps 0 zs = some cs) (hi : idxOk ps zs.length = true) (hp : pl = ((List.range zs.length).map fun i => (i, 1)).toArray) (ho : ∀ v ∈ cs, v.oneCell' = true) :
    Val P B n ⟨d, .build T ps.toArray, ty, pos, af, g⟩ E H (.agg cs.toArray) := by
  intro a w he _
  obtain ⟨fs, k1, k2⟩ := hT.get
  obtain ⟨h1, h2⟩ := idxOk_spec hi
  have hf := fill_mk he (pl[·]?) hx h1 h2 (fun i hi => by subst hp; simp [hi]) ho
  simp only [execOp, Instr.build, Sem.run_bind, hz.get, Result.andThen_ok, run_und k1, k2, List.map_toArray, Value.cells, hf, Sem.run_pure]
theorem e_mk1 {len e : Nat} {zv : Value} {cs : List Value} {ps : List (Nat × Operand)} [hT : TyOf P T (.slice e)] [hz : SzOf P e 1] [h0 : ZeroOf P e zv]
    (hx : mkCs E ps 0 (List.replicate len zv) = some cs) (hi : idxOk ps len = true) (ho : ∀ v ∈ cs, v.oneCell' = true) (hzv : zv.cells = #[zv]) (hb : Nat.ble len 16777216 = true) (hp : Nat.blt 0 len = true) :
    Eff P B n ⟨d, .buildSlice T len ps.toArray, ty, pos, af, g⟩ E D H (fun v H' => ∃ b, v = .slice (some ⟨b, 0, none⟩) len len ∧ H' = HP.pts b 0 cs * H) := by
  intro a w h1 _ h3 K Q hk
  have hb' : ¬ len * 1 > 2 ^ 24 := by have := Nat.le_of_ble_eq_true hb; omega
  have hp' : ¬ len * 1 = 0 := by have : 0 < len := by simpa using hp
                                 omega
  obtain ⟨k1, k2⟩ := idxOk_spec hi
  have hz1 : ((Array.range (len * 1)).map fun i => zv.cells[i % zv.cells.size]!) = (List.replicate len zv).toArray := by
    rw [hzv, Nat.mul_one]
    apply Array.ext_getElem?
    intro i
    rcases Nat.lt_or_ge i len with h | h
    · simp [h, Nat.mod_one]
    · simp [h]
  have hf := fill_mk h1 (fun i => some (i * 1, 1)) hx k1 (by simpa using k2) (fun i _ => by rw [Nat.mul_one]) ho
  have hrun : (execOp a.eval ⟨d, .buildSlice T len ps.toArray, ty, pos, af, g⟩).run P w = .ok (.value (.slice (some ⟨w.heap.size, 0, none⟩) len len)) (w.alloc (.cells cs.toArray e)) := by
    simp only [execOp, Instr.buildSlice, Sem.run_bind, run_und hT.get, Result.andThen_ok, hz.get, hb', if_false, hp', h0.get, Sem.run_pure, List.map_toArray, hz1, hf, newRow]
    rfl
  simp only [Oper.wp, hrun, Oper.upon]
  exact hk _ _ _ ⟨w.heap.size, rfl, rfl⟩ (h3.alloc cs.toArray e)
end
end Go.Proofs.YtgfdlpcdjklcoaaDoor
