/- A range over a function, and calls of yield, over the small separation logic; no condition. -/
import Derived.Test.YtgfdlpcdjklcoaaDoorMk
namespace Go.Proofs.YtgfdlpcdjklcoaaDoor
open Go Go.RowKit

theorem cell_put_other {w : World} {b b' i : Nat} {y : Obj} (h : b' ≠ b) : (w.putObj b y).cell? ⟨b', i, none⟩ = w.cell? ⟨b', i, none⟩ := by
  simp [World.cell?, World.putObj_heap_other h]
theorem frozen_put_other {w : World} {b b' i : Nat} {y : Obj} (h : b' ≠ b) : (w.putObj b y).frozen? ⟨b', i, none⟩ = w.frozen? ⟨b', i, none⟩ := by
  simp [World.frozen?, World.putObj_heap_other h]
theorem Sat.objGet {B : World} {b : Nat} {x : Obj} {R : HP} {w : World} (h : Sat B (HP.obj b x * R) w) : w.heap[b]? = some x ∧ B.heap.size ≤ b ∧ ∀ c t f, x ≠ .cells c t f := by
  obtain ⟨_, r, hr, hl⟩ := h.left
  obtain rfl : r = _ := hr
  exact ⟨hl.obj b x (by simp), hl.aboveO b x (by simp), hl.other b x (by simp)⟩
theorem Sat.objPut {B : World} {b : Nat} {x y : Obj} {R : HP} {w : World} (h : Sat B (HP.obj b x * R) w) (hy : ∀ c t f, y ≠ .cells c t f) : Sat B (HP.obj b y * R) (w.putObj b y) := by
  obtain ⟨hx, hb, hxc⟩ := h.objGet
  have hlt : b < w.heap.size := (Array.getElem?_eq_some_iff.1 hx).1
  obtain ⟨h1, r, ⟨r1, r2, hd, rfl, e1, e2⟩, hl⟩ := h
  obtain rfl : r1 = _ := e1
  have hno : r2.o b = none := (hd.2 b).resolve_left (by simp)
  have hne : ∀ b' i v, r2.c b' i = some v → b' ≠ b := fun b' i v e hbb => by
    subst hbb
    have := hl.cell b' i v (by simp [Res.un, e])
    unfold World.cell? at this
    rw [hx] at this
    cases x <;> first | cases this | exact absurd rfl (hxc _ _ _)
  have hneq : ∀ k, k ≠ b → (w.putObj b y).heap[k]? = w.heap[k]? := fun k hk => World.putObj_heap_other hk
  refine ⟨⟨h1.os, h1.tape, h1.output, by simpa using h1.size, fun k hk => (hneq k (by omega)).trans (h1.block k hk)⟩, _, ⟨_, r2, ⟨fun _ _ => .inl rfl, fun b' => ?_⟩, rfl, rfl, e2⟩, ?_⟩
  · by_cases h : b' = b
    · subst h; exact .inr hno
    · exact .inl (by simp [h])
  · refine ⟨fun b' i v e => ?_, fun b' i v e => ?_, fun b' z e => ?_, fun b' z e => ?_, fun b' i v e => ?_, fun b' z e => ?_⟩
    · simp only [Res.un, Option.none_or] at e
      rw [cell_put_other (hne b' i v e)]; exact hl.cell b' i v (by simp [Res.un, e])
    · simp only [Res.un, Option.none_or] at e
      rw [frozen_put_other (hne b' i v e)]; exact hl.free b' i v (by simp [Res.un, e])
    · simp only [Res.un] at e
      by_cases h : b' = b
      · subst h; simp at e; subst e; exact World.putObj_heap_same hlt
      · rw [hneq b' h]; simp [h] at e; exact hl.obj b' z (by simp [Res.un, h, e])
    · simp only [Res.un] at e
      by_cases h : b' = b
      · subst h; simp at e; subst e; exact hy
      · simp [h] at e; exact hl.other b' z (by simp [Res.un, h, e])
    · simp only [Res.un, Option.none_or] at e
      exact hl.above b' i v (by simp [Res.un, e])
    · simp only [Res.un] at e
      by_cases h : b' = b
      · subst h; exact hb
      · simp [h] at e; exact hl.aboveO b' z (by simp [Res.un, h, e])
theorem Sat.allocObj {B : World} {H : HP} {w : World} (hw : Sat B H w) (y : Obj) (hy : ∀ c t f, y ≠ .cells c t f) : Sat B (HP.obj w.heap.size y * H) (w.alloc y) := by
  obtain ⟨h1, r, hr, hl⟩ := hw
  have hlt : ∀ b i v, r.c b i = some v → b < w.heap.size := fun b i v e => by
    have := hl.cell b i v e
    unfold World.cell? at this
    cases h : w.heap[b]? with
    | none => rw [h] at this; cases this
    | some o => exact (Array.getElem?_eq_some_iff.1 h).1
  have hltO : ∀ b z, r.o b = some z → b < w.heap.size := fun b z e => (Array.getElem?_eq_some_iff.1 (hl.obj b z e)).1
  have hold : ∀ k, k < w.heap.size → (w.alloc y).heap[k]? = w.heap[k]? := fun k hk => by
    show (w.heap.push y)[k]? = _
    rw [Array.getElem?_push_lt hk, ← Array.getElem?_eq_getElem]
  refine ⟨⟨h1.os, h1.tape, h1.output, by have := h1.size; simp only [World.alloc_size]; omega, fun k hk => (hold k (by have := h1.size; omega)).trans (h1.block k hk)⟩, _, ⟨_, r, ⟨fun _ _ => .inl rfl, fun b => ?_⟩, rfl, rfl, hr⟩, ?_⟩
  · cases h : r.o b with
    | none => exact .inr rfl
    | some z => exact .inl (by have := hltO b z h; simp; omega)
  · refine ⟨fun b i v e => ?_, fun b i v e => ?_, fun b z e => ?_, fun b z e => ?_, fun b i v e => ?_, fun b z e => ?_⟩
    · simp only [Res.un, Option.none_or] at e
      have := hl.cell b i v e
      unfold World.cell? at this ⊢
      rw [hold b (hlt b i v e)]; exact this
    · simp only [Res.un, Option.none_or] at e
      have := hl.free b i v e
      unfold World.frozen? at this ⊢
      rw [hold b (hlt b i v e)]; exact this
    · simp only [Res.un] at e
      by_cases h : b = w.heap.size
      · subst h; simp at e; subst e; exact World.alloc_heap_new _ _
      · simp [h] at e; rw [hold b (hltO b z e)]; exact hl.obj b z e
    · simp only [Res.un] at e
      by_cases h : b = w.heap.size
      · subst h; simp at e; subst e; exact hy
      · simp [h] at e; exact hl.other b z e
    · simp only [Res.un, Option.none_or] at e
      exact hl.above b i v e
    · simp only [Res.un] at e
      by_cases h : b = w.heap.size
      · subst h; exact h1.size
      · simp [h] at e; exact hl.aboveO b z e

/-- a call of yield -/
def Yn (P : Program) (B : World) (l : Nat) (args : List Value) (H : HP) (Post : Value → HP → Prop) : Prop :=
  ∀ w, Sat B H w → YieldAt (fr none) 0 P l args.toArray w fun e w' => ∃ v H', e = .returned v ∧ Post v H' ∧ Sat B H' w'
/-- the contract of an iterator -/
def Iter (P : Program) (B : World) {α : Type} (gf : FuncId) (lb : List Value) (enc : α → Value) (S Sp G : List α → Prop) (F F' : HP) : Prop :=
  ∀ (l : Nat) (J Jx : List α → HP), (∀ pre x R, Sp (pre ++ [x]) → Yn P B l [enc x] (J pre * R) (fun v H' => ∃ g : Bool, v = .bool g ∧ (g = true → G (pre ++ [x])) ∧ H' = (bif g then J (pre ++ [x]) else Jx (pre ++ [x])) * R)) →
    Fn P B gf (.func (.yield l) #[] #[] :: lb) (J [] * F) (fun _ H' => (∃ xs, S xs ∧ H' = J xs * F') ∨ ∃ pre, Sp pre ∧ H' = Jx pre * F')
/-- behind the assignment of a round -/
def AsgQ (B : World) (n : Nat) (E : Env) (H : HP) : Exit → Act → World → Prop
  | .normal, a, w => EOk n E a ∧ a.defers = [] ∧ Sat B H w
  | _, _, _ => False
/-- at the end of a round -/
def RoundQ (B : World) (Gp : Prop) (H : HP) (HX : Nat → HP) : Exit → Act → World → Prop
  | .normal, _, w => Gp ∧ Sat B H w
  | .exit id, _, w => Sat B (HX id) w
  | _, _, _ => False
instance {B : World} {n : Nat} {E : Env} {H : HP} : PQ (AsgQ B n E H) := ⟨fun _ _ _ _ _ h => h, fun _ _ h => h⟩
instance {B : World} {Gp : Prop} {H : HP} {HX : Nat → HP} : PQ (RoundQ B Gp H HX) := ⟨fun _ _ _ _ _ h => h, fun _ _ h => h⟩
theorem mapPQ : True := trivial
abbrev mark (d : Nat) : Deferred := { target := .collected d, args := #[] }
section
variable {P : Program} {B : World} {n : Nat} {E : Env} {D : Dfr} {H : HP} {d : Option Tmp} {T T' ty : TypeId} {pos : String} {af : Array Edge} {g : Option (Nat × Bool)} {x y z : Operand} {Q : Exit → Act → World → Prop}

theorem a_asg {E' : Env} {r : Option Nat} {H' : HP} (s : Sub E E') (e : H = H') : AtQ B (AsgQ B n E' H') .normal n E ⟨[], r⟩ H := fun _ _ h1 h2 h3 => ⟨h1.sub s, h2, e ▸ h3⟩
theorem a_round {Gp : Prop} {H' : HP} {HX : Nat → HP} (g : Gp) (e : H = H') : AtQ B (RoundQ B Gp H' HX) .normal n E D H := fun _ _ _ _ h3 => ⟨g, e ▸ h3⟩
theorem a_roundE {Gp : Prop} {H' : HP} {HX : Nat → HP} (g : Gp) (e : ∀ w, Sat B H w → Sat B H' w) : AtQ B (RoundQ B Gp H' HX) .normal n E D H := fun _ w _ _ h3 => ⟨g, e w h3⟩
theorem a_roundXE {Gp : Prop} {H' : HP} {HX : Nat → HP} {id : Nat} (e : ∀ w, Sat B H w → Sat B (HX id) w) : AtQ B (RoundQ B Gp H' HX) (.exit id) n E D H := fun a w _ _ h3 => e w h3
theorem w_exP {c : Code} {α : Type} {p : α → Prop} {A : α → HP} {R : HP} (h : ∀ z, p z → WP P B c Q n E D (A z * R)) : WP P B c Q n E D ((HP.ex fun z => HP.pr (p z) * A z) * R) :=
  w_ex fun z => by rw [HP.assoc]; exact w_pr fun hp => h z hp
theorem a_exP {e : Exit} {α : Type} {p : α → Prop} {A : α → HP} {R : HP} (h : ∀ z, p z → AtQ B Q e n E D (A z * R)) : AtQ B Q e n E D ((HP.ex fun z => HP.pr (p z) * A z) * R) := by
  intro a w h1 h2 h3
  rw [HP.ex_mul] at h3
  obtain ⟨z, h4⟩ := Sat.ex.1 h3
  rw [HP.assoc] at h4
  obtain ⟨hp, h5⟩ := Sat.pr.1 h4
  exact h z hp a w h1 h2 h5
theorem sat_exP {α : Type} {p : α → Prop} {A : α → HP} {R : HP} (z : α) (hp : p z) (e : H = A z * R) (w : World) (hw : Sat B H w) : Sat B ((HP.ex fun z => HP.pr (p z) * A z) * R) w := by
  rw [HP.ex_mul]
  exact Sat.ex.2 ⟨z, by rw [HP.assoc]; exact Sat.pr.2 ⟨hp, e ▸ hw⟩⟩
theorem a_roundX {Gp : Prop} {H' : HP} {HX : Nat → HP} {id : Nat} (e : H = HX id) : AtQ B (RoundQ B Gp H' HX) (.exit id) n E D H := fun a w _ _ h3 => by
  show Sat B (HX id) w
  exact e ▸ h3
theorem e_yield {l : Nat} {t : Operand} {xs : List Operand} {vs : List Value} {ats : Array TypeId} {Post : Value → HP → Prop}
    (ht : ev E t = some (.func (.yield l) #[] #[])) (hx : evs E xs = some vs) (hs : Yn P B l vs H Post) : EffI P B n ⟨d, .call ⟨.value t, xs.toArray, ats⟩, ty, pos, af, g⟩ E D H Post := by
  intro a w h1 h2 h3 K Q hk
  obtain ⟨fn, tmps, assign, body, hy, hR⟩ := hs w h3
  refine ⟨fun _ _ => trivial, ?_⟩
  rw [Oper.semAt_eq _ _ _ (fun c => by simp)]
  have hrun : (execOp a.eval ⟨d, .call ⟨.value t, xs.toArray, ats⟩, ty, pos, af, g⟩).run P w = .ok (.round l fn tmps assign body) w := by
    simp only [execOp, resolve, List.map_toArray, evs_eval h1 hx, h1.ev ht, Deferred.ofValue, Sem.run_bind, Sem.run_pure, Result.andThen_ok, invoke]
    simpa using hy
  rw [hrun]
  refine ⟨fun h0 => by simp [fr, Fence.wide] at h0, RoundIn.mono (F := fr none) (n := 0) hR ?_⟩
  rintro e w' ⟨v, H', rfl, hp, hs'⟩
  exact hk v H' w' hp hs'

theorem w_range {α : Type} {gf : FuncId} {lb : List Value} {p : Nat} {g : Operand} {assign body : Code} [hok : CallOk P gf]
    (enc : α → Value) (S Sp G : List α → Prop) (J : List α → HP) (Jx : Nat → List α → HP) (F F' : HP) (EA : α → Env)
    (hg : ev E g = some (.func (.func gf) #[] lb.toArray)) (hp : Nat.blt p n = true) (hr : D.r = none) (hH : ∀ w, Sat B H w → Sat B (J [] * F) w) (hit : Iter P B gf lb enc S Sp G F F')
    (hasg : ∀ pre x l R, WP P B assign (AsgQ B n (EA x) (J pre * R)) n ((p, enc x) :: E) ⟨[], some l⟩ (J pre * R))
    (hbody : ∀ pre x l R, Sp (pre ++ [x]) → WP P B body (RoundQ B (G (pre ++ [x])) (J (pre ++ [x]) * R) (fun id => Jx id (pre ++ [x]) * R)) n (EA x) ⟨[], some l⟩ (J pre * R))
    (hdone : ∀ d xs, S xs → AtQ B Q .normal n E ⟨mark d :: D.ds, none⟩ (J xs * (HP.obj d (.deferred (some [])) * F')))
    (hstop : ∀ d pre id, Sp pre → AtQ B Q (.exit id) n E ⟨mark d :: D.ds, none⟩ (Jx id pre * (HP.obj d (.deferred (some [])) * F'))) :
    WP P B (.rangeFunc g #[p] assign body) Q n E D H := by
  intro a w h1 h2 h3
  rw [hr]
  refine wpIn_rangeFunc fun fn _ => ?_
  have h3 := hH w h3
  let rec_ : LoopState → Option Code → Obj := fun st pe => .loop { state := st, pending := pe, fn, tmps := a.tmps, params := #[p], assign, body, defers := w.heap.size }
  let l := w.heap.size + 1
  have hl1 : Sat B (HP.obj l (rec_ .ready none) * (HP.obj w.heap.size (.deferred (some [])) * (J [] * F))) ((w.alloc (.deferred (some []))).alloc (rec_ .ready none)) := by
    have := (h3.allocObj (.deferred (some [])) (by simp)).allocObj (rec_ .ready none) (by simp [rec_])
    rwa [World.alloc_size] at this
  let J' : List α → HP := fun pre => J pre * (HP.obj w.heap.size (.deferred (some [])) * HP.obj l (rec_ .ready none))
  let Jx' : List α → HP := fun pre => HP.ex fun id => Jx id pre * (HP.obj w.heap.size (.deferred (some [])) * HP.obj l (rec_ .done (some (.exit id))))
  have hY : ∀ pre x R, Sp (pre ++ [x]) → Yn P B l [enc x] (J' pre * R) (fun v H' => ∃ g : Bool, v = .bool g ∧ (g = true → G (pre ++ [x])) ∧ H' = (bif g then J' (pre ++ [x]) else Jx' (pre ++ [x])) * R) := by
    intro pre x R hsp W hW
    have e1 : J' pre * R = HP.obj l (rec_ .ready none) * (J pre * (HP.obj w.heap.size (.deferred (some [])) * R)) := by
      show J pre * (_ * _) * R = _
      ac_rfl
    rw [e1] at hW
    obtain ⟨hW1, _, _⟩ := hW.objGet
    refine ⟨fn, _, assign, body, run_yield hW1 rfl, ?_⟩
    refine roundIn_of_wpIn trivial ?_
    have hE : EOk n ((p, enc x) :: E) { tmps := ((#[p] : Array Nat).zip [enc x].toArray).foldl (fun t (p, v) => t.setIfInBounds p v) a.tmps, defers := [] } := by
      have h5 := h1.put (t := p) (by simpa using hp) (enc x)
      have e : ((#[p] : Array Nat).zip [enc x].toArray).foldl (fun t (p, v) => t.setIfInBounds p v) a.tmps = a.tmps.setIfInBounds p (enc x) := by
        have e0 : (#[p] : Array Nat).zip [enc x].toArray = #[(p, enc x)] := by simp [Array.zip]
        rw [e0]; simp
      rw [e]
      exact h5
    have e2 : HP.obj l (rec_ .ready none) * (J pre * (HP.obj w.heap.size (.deferred (some [])) * R)) = J pre * (HP.obj l (rec_ .ready none) * (HP.obj w.heap.size (.deferred (some [])) * R)) := by ac_rfl
    refine wpIn_mono (hasg pre x l (HP.obj l (rec_ .ready none) * (HP.obj w.heap.size (.deferred (some [])) * R)) _ W hE rfl (e2 ▸ hW)) ?_
    intro e a1 w1 hq
    cases e with
    | normal =>
      obtain ⟨k1, k2, k3⟩ := hq
      rw [← e2] at k3
      obtain ⟨hb1, _, _⟩ := k3.objGet
      refine ⟨_, run_beginRound hb1 rfl, ?_⟩
      have k4 := k3.objPut (y := rec_ .busy none) (by simp [rec_])
      have e3 : HP.obj l (rec_ .busy none) * (J pre * (HP.obj w.heap.size (.deferred (some [])) * R)) = J pre * (HP.obj l (rec_ .busy none) * (HP.obj w.heap.size (.deferred (some [])) * R)) := by ac_rfl
      rw [e3] at k4
      refine wpIn_mono (hbody pre x l _ hsp a1 _ k1 k2 k4) ?_
      intro e a2 w2 hq
      cases e with
      | normal =>
        obtain ⟨hG, hq⟩ := hq
        have hq' : Sat B (J (pre ++ [x]) * (HP.obj l (rec_ .busy none) * (HP.obj w.heap.size (.deferred (some [])) * R))) w2 := hq
        rw [HP.left_comm] at hq'
        obtain ⟨hb2, _, _⟩ := hq'.objGet
        refine ⟨_, _, run_endRound none hb2, .bool true, _, rfl, ⟨true, rfl, fun _ => hG, rfl⟩, ?_⟩
        have := hq'.objPut (y := rec_ .ready none) (by simp [rec_])
        show Sat B (J (pre ++ [x]) * (_ * _) * R) _
        have e4 : J (pre ++ [x]) * (HP.obj w.heap.size (.deferred (some [])) * HP.obj l (rec_ .ready none)) * R = HP.obj l (rec_ .ready none) * (J (pre ++ [x]) * (HP.obj w.heap.size (.deferred (some [])) * R)) := by ac_rfl
        rw [e4]; exact this
      | exit id =>
        have hq' : Sat B (Jx id (pre ++ [x]) * (HP.obj l (rec_ .busy none) * (HP.obj w.heap.size (.deferred (some [])) * R))) w2 := hq
        rw [HP.left_comm] at hq'
        obtain ⟨hb2, _, _⟩ := hq'.objGet
        refine ⟨_, _, run_endRound (some (.exit id)) hb2, .bool false, _, rfl, ⟨false, rfl, fun h => (by cases h), rfl⟩, ?_⟩
        have := hq'.objPut (y := rec_ .done (some (.exit id))) (by simp [rec_])
        show Sat B (HP.ex _ * R) _
        rw [HP.ex_mul]
        refine Sat.ex.2 ⟨id, ?_⟩
        have e4 : Jx id (pre ++ [x]) * (HP.obj w.heap.size (.deferred (some [])) * HP.obj l (rec_ .done (some (.exit id)))) * R = HP.obj l (rec_ .done (some (.exit id))) * (Jx id (pre ++ [x]) * (HP.obj w.heap.size (.deferred (some [])) * R)) := by ac_rfl
        rw [e4]; exact this
      | goto t => exact hq.elim
      | ret => exact hq.elim
      | panic ch => exact hq.elim
      | outgrown => exact hq.elim
    | exit id => exact hq.elim
    | goto t => exact hq.elim
    | ret => exact hq.elim
    | panic ch => exact hq.elim
    | outgrown => exact hq.elim
  have hcall := hit l J' Jx' hY _ (by
    have e5 : J' [] * F = HP.obj l (rec_ .ready none) * (HP.obj w.heap.size (.deferred (some [])) * (J [] * F)) := by
      show J [] * (_ * _) * F = _
      ac_rfl
    rw [e5]; exact hl1)
  let W1 : World := (w.alloc (.deferred (some []))).alloc (rec_ .ready none)
  refine ⟨l, [mark w.heap.size], W1, { target := .fn (.func gf) lb.toArray, args := #[.func (.yield l) #[] #[]] }, W1, gf, (.func (.yield l) #[] #[] :: lb).toArray, W1, run_enterLoop_outer _ _ _ _ _, ?_, fun f' _ => (show (fr none).fn f' from trivial), ?_, fun h0 => by simp [fr, Fence.wide] at h0, ?_⟩
  · simp only [resolve, h1.ev hg]
    simp [go_sem]
  · have := hok.get (.func (.yield l) #[] #[] :: lb).toArray W1
    simpa [invoke] using this
  · refine CallsIn.mono (callsFr (r := none) (n := 0 - 1) hcall) ?_
    rintro e w3 ⟨v, H', rfl, hp3, hs3⟩
    rcases hp3 with ⟨xs, hS, rfl⟩ | ⟨pre, hS, rfl⟩
    · have e6 : J' xs * F' = HP.obj l (rec_ .ready none) * (J xs * (HP.obj w.heap.size (.deferred (some [])) * F')) := by
        show J xs * (_ * _) * F' = _
        ac_rfl
      rw [e6] at hs3
      obtain ⟨hb3, _, _⟩ := hs3.objGet
      refine ⟨_, _, run_endLoop hb3 (by simp), ?_⟩
      have := (hs3.objPut (y := rec_ .exhausted none) (by simp [rec_])).right
      exact hdone _ xs hS _ _ h1 (by simp [h2]) this
    · have hs4 : Sat B (HP.ex (fun id => Jx id pre * (HP.obj w.heap.size (.deferred (some [])) * HP.obj l (rec_ .done (some (.exit id))))) * F') w3 := hs3
      rw [HP.ex_mul] at hs4
      obtain ⟨id, hs5⟩ := Sat.ex.1 hs4
      have e6 : Jx id pre * (HP.obj w.heap.size (.deferred (some [])) * HP.obj l (rec_ .done (some (.exit id)))) * F' = HP.obj l (rec_ .done (some (.exit id))) * (Jx id pre * (HP.obj w.heap.size (.deferred (some [])) * F')) := by ac_rfl
      rw [e6] at hs5
      obtain ⟨hb3, _, _⟩ := hs5.objGet
      refine ⟨_, _, run_endLoop hb3 (by simp), ?_⟩
      have := (hs5.objPut (y := rec_ .exhausted (some (.exit id))) (by simp [rec_])).right
      exact wpIn_exit (hstop _ pre id hS _ _ h1 (by simp [h2]) this)

/-! ### a function that holds such loops -/
def FPostM (P : Program) (B : World) (fn : Func) (Post : Value → HP → Prop) : Exit → Act → World → Prop
  | .normal, a, w | .ret, a, w => LeavesInM (fr none) 0 P fn a.tmps (fun e w' => ∃ v H', e = .returned v ∧ Post v H' ∧ Sat B H' w') a.defers .returning w
  | _, _, _ => False
instance {P : Program} {B : World} {fn : Func} {Post : Value → HP → Prop} : PQ (FPostM P B fn Post) := ⟨fun _ _ _ _ _ h => h, fun _ _ h => h⟩
theorem fn_introM {c : Code} {f : FuncId} {fn : Func} {args : List Value} {Post : Value → HP → Prop} (hf : P.funcs[f]? = some fn) (hb : fn.body = some c) (hn : fn.ntmps = n)
    (ha : Nat.ble args.length n = true) (h : WP P B c (FPostM P B fn Post) n (mkE 0 args) ⟨[], none⟩ H) : Fn P B f args H Post := by
  intro w hw
  refine (callsIn_wide (n := 0)).1 (callsIn_of_wp_marks (F := fr none) (n := 0) hf hb trivial (wpIn_mono (h _ w ⟨?_, ?_⟩ rfl hw) ?_))
  · have : args.length ≤ n := by simpa using ha
    simp [hn]; omega
  · intro t v e
    obtain ⟨_, h2⟩ := lk_mkE args 0 t v e
    simp only [Nat.sub_zero] at h2
    have hlt : t < args.length := (List.getElem?_eq_some_iff.1 h2).1
    simp only []
    rw [Array.getElem?_append_left (by simpa using hlt)]
    simpa using h2
  · intro e a w hq
    cases e <;> first | exact hq | exact hq.elim
theorem leaves_marks {fn : Func} {tmps : Array Value} {R : Ending → World → Prop} : ∀ (ms : List Nat) (w : World) (H : HP), Sat B (ms.foldr (fun d H => HP.obj d (.deferred (some [])) * H) H) w →
    (∀ w', Sat B H w' → ∃ v, (results fn tmps).run P w' = .ok v w' ∧ R (.returned v) w') → LeavesInM (fr none) 0 P fn tmps R (ms.map mark) .returning w
  | [], w, H, hs, hk => hk w hs
  | m :: ms, w, H, hs, hk => by
    obtain ⟨hb, _, _⟩ := Sat.objGet hs
    refine ⟨by simp, .inl ⟨m, _, rfl, run_takeDeferred hb, ?_⟩⟩
    exact leaves_marks ms _ H (Sat.right (Sat.objPut hs (y := .deferred none) (by simp))) hk
theorem a_retM {r : Option Nat} {fn : Func} {Post : Value → HP → Prop} {ts : List Nat} {vs : List Value} (ms : List Nat) (H' : HP) (hr : fn.results = (ts.map ResultVar.tmp).toArray) (hv : evs E (ts.map Operand.tmp) = some vs)
    (hp : Post (retOf vs) H') (e : H = ms.foldr (fun d H => HP.obj d (.deferred (some [])) * H) H') : AtQ B (FPostM P B fn Post) .ret n E ⟨ms.map mark, r⟩ H := by
  intro a w h1 h2 h3
  show LeavesInM _ _ _ _ _ _ _ _ _
  rw [h2]
  exact leaves_marks ms w H' (e ▸ h3) fun w' hw' => ⟨_, results_eval hr h1 hv w', _, _, rfl, hp, hw'⟩
end
end Go.Proofs.YtgfdlpcdjklcoaaDoor
