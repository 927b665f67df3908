/- Functions with deferred calls; recover; no condition. -/
import Derived.Test.YtgfdlpcdjklcoaaDoorPan
namespace Go.Proofs.YtgfdlpcdjklcoaaDoor
open Go Go.RowKit
set_option linter.unusedVariables false
section
variable {P : Program} {B : World} {n : Nat} {E : Env} {D : Dfr} {H R : HP} {d : Option Tmp} {T T' ty : TypeId} {pos : String} {af : Array Edge} {g : Option (Nat × Bool)} {x y z : Operand}
  {ops : Array Oper} {Q : Exit → Act → World → Prop} {rest : List Oper} {op : Op}
/-- a function's value without arguments is deferred -/
theorem l_defer {ds : List Deferred} {t : Operand} {f : FuncId} {us : List Value} {ats : Array TypeId} (ht : ev E t = some (.func (.func f) #[] us.toArray))
    (next : WL P B ops Q rest n E ⟨{ target := .fn (.func f) us.toArray, args := #[] } :: ds, none⟩ H) : WL P B ops Q (⟨none, .defer ⟨.value t, #[], ats⟩, ty, pos, af, none⟩ :: rest) n E ⟨ds, none⟩ H := by
  intro a w h1 h2 h3
  unfold wpListIn
  rw [if_pos (by simp [Region.wanted])]
  refine ⟨fun _ _ => trivial, ?_⟩
  have hrun : (execOp a.eval ⟨none, .defer ⟨.value t, #[], ats⟩, ty, pos, af, none⟩).run P w = .ok (.defer { target := .fn (.func f) us.toArray, args := #[] }) w := by
    simp [execOp, resolve, h1.ev ht, Deferred.ofValue]
  have hs : (Oper.semAt (fr none).round a.eval (⟨none, .defer ⟨.value t, #[], ats⟩, ty, pos, af, none⟩ : Oper)).run P w = .ok (.defer { target := .fn (.func f) us.toArray, args := #[] }) w := by
    rw [show (fr none).round = none from rfl, Oper.semAt_none]; exact hrun
  rw [hs]
  show wpListIn (fr none) 0 P ops Q rest _ w
  exact next _ w h1 (by simp [Act.put, h2]) h3
def FPostD (P : Program) (B : World) (fn : Func) (Post : Value → HP → Prop) : Exit → Act → World → Prop :=
  bodyPostDIn (fr none) 0 P fn fun e w' => ∃ v H', e = .returned v ∧ Post v H' ∧ Sat B H' w'
theorem fn_introD {c : Code} {f : FuncId} {fn : Func} {args : List Value} {Post : Value → HP → Prop} (hf : P.funcs[f]? = some fn) (hb : fn.body = some c) (hn : fn.ntmps = n)
    (ha : Nat.ble args.length n = true) (h : WP P B c (FPostD P B fn Post) n (mkE 0 args) ⟨[], none⟩ H) : Fn P B f args H Post := by
  intro w hw
  refine (callsIn_wide (n := 0)).1 (callsIn_of_wp_defers (F := fr none) (n := 0) hf hb trivial (h _ w ⟨?_, ?_⟩ rfl hw))
  · have : args.length ≤ n := by simpa using ha
    simp [hn]; omega
  · intro t v e
    obtain ⟨_, h2⟩ := lk_mkE args 0 t v e
    simp only [Nat.sub_zero] at h2
    have hlt : t < args.length := (List.getElem?_eq_some_iff.1 h2).1
    simp only []
    rw [Array.getElem?_append_left (by simpa using hlt)]
    simpa using h2
/-- a deferred call's contract: it returns; what it turns the mode of the frame below into -/
def FnD (P : Program) (B : World) (f : FuncId) (args : List Value) (u u' : FrameMode) (H : HP) (Post : HP → Prop) : Prop :=
  ∀ w, Sat B H w → CallsDIn (fr none) 0 P f args.toArray u w fun e u2 w' => ∃ v H', e = .returned v ∧ u2 = u' ∧ Post H' ∧ Sat B H' w'
theorem leaves_one {fn : Func} {f : FuncId} {us : List Value} {u u' : FrameMode} {rs : List ResultVar} {Post : Value → HP → Prop} {PD : HP → Prop} [hok : CallOk P f] (hu : u ≠ .run)
    (hd : FnD P B f us u u' H PD) (hset : settle u' = .returning) (hr : fn.results = rs.toArray) (hv : ∀ H', PD H' → ∃ vs H'', RvsOk P B n E H' rs vs ∧ Post (retOf vs) H'' ∧ Ent B H' H'') :
    ∀ a w, EOk n E a → Sat B H w → LeavesIn (fr none) 0 P fn a.tmps (fun e w' => ∃ v H', e = .returned v ∧ Post v H' ∧ Sat B H' w') [{ target := .fn (.func f) us.toArray, args := #[] }] u w := by
  intro a w h1 h3
  refine leavesIn_cons (f := f) (args := us.toArray) hu (by simp [fr, Fence.wide]) ?_ (fun _ _ => trivial) ?_
  · have := hok.get us.toArray w
    simpa [invoke] using this
  · refine CallsDIn.mono (F := fr none) (n := 0) (hd w h3) ?_
    rintro e u2 w' ⟨v, H', rfl, rfl, hp, hs⟩
    obtain ⟨vs, H'', hv1, hv2, hv3⟩ := hv H' hp
    show LeavesIn _ _ _ _ _ _ [] (settle u2) w'
    rw [hset]
    exact ⟨_, results_evalG hr h1 hv1 hs, _, _, rfl, hv2, hv3.get w' hs⟩
theorem a_retDf {fn : Func} {f : FuncId} {us : List Value} {u' : FrameMode} {rs : List ResultVar} {Post : Value → HP → Prop} {PD : HP → Prop} [hok : CallOk P f]
    (hd : FnD P B f us .returning u' H PD) (hset : settle u' = .returning) (hr : fn.results = rs.toArray) (hv : ∀ H', PD H' → ∃ vs H'', RvsOk P B n E H' rs vs ∧ Post (retOf vs) H'' ∧ Ent B H' H'') :
    AtQ B (FPostD P B fn Post) .ret n E ⟨[{ target := .fn (.func f) us.toArray, args := #[] }], none⟩ H := by
  intro a w h1 h2 h3
  show LeavesIn _ _ _ _ _ _ _ _ _
  rw [h2]
  exact leaves_one (by simp) hd hset hr hv a w h1 h3
theorem a_panicDf {c : List PanicEntry} {fn : Func} {f : FuncId} {us : List Value} {u' : FrameMode} {rs : List ResultVar} {Post : Value → HP → Prop} {PD : HP → Prop} [hok : CallOk P f]
    (hd : FnD P B f us (.panicking c) u' H PD) (hset : settle u' = .returning) (hr : fn.results = rs.toArray) (hv : ∀ H', PD H' → ∃ vs H'', RvsOk P B n E H' rs vs ∧ Post (retOf vs) H'' ∧ Ent B H' H'') :
    AtQ B (FPostD P B fn Post) (.panic c) n E ⟨[{ target := .fn (.func f) us.toArray, args := #[] }], none⟩ H := by
  intro a w h1 h2 h3
  show LeavesIn _ _ _ _ _ _ _ _ _
  rw [h2]
  exact leaves_one (by simp) hd hset hr hv a w h1 h3
theorem run_recover {e : Operand → Value} {ats : Array TypeId} (w : World) : (execOp e ⟨d, .call ⟨.builtin .recover, #[], ats⟩, ty, pos, af, g⟩).run P w = .ok .recover w := by
  simp [execOp, resolve, invoke, builtin]
/-- recover, and where its answer goes -/
theorem s_recover {id t t2 : Nat} {pos2 : String} {af2 : Array Edge} {ats : Array TypeId} {QS : Exit → Act → List Frame → World → Prop} {a : Act} {cs cs' : List Frame} {w : World} {v : Value}
    (hrec : recoverD cs = some (v, cs') ∨ (recoverD cs = none ∧ v = .nilIface ∧ cs' = cs)) (ht : t < a.tmps.size)
    (h : QS .normal ((a.put (some t) v).put (some t2) v) cs' w) :
    (Code.region id #[⟨some t, .call ⟨.builtin .recover, #[], ats⟩, ty, pos, af, none⟩, ⟨some t2, .assign (.tmp t), T, pos2, af2, none⟩] false).wpSIn (fr none) 0 P QS a cs w := by
  refine wpSIn_region ?_
  show wpOpsSIn (fr none) 0 P _ QS [0, 1] a cs w
  have e2 : ∀ (cs : List Frame) (v : Value), (execOp (Act.eval (a.put (some t) v)) ⟨some t2, .assign (.tmp t), T, pos2, af2, none⟩).run P w = .ok (.value v) w := by
    intro cs v
    simp [execOp, Act.eval, Act.put, ht]
  unfold wpOpsSIn
  simp only [List.getElem?_toArray, List.getElem?_cons_zero]
  refine ⟨fun _ _ => trivial, ?_⟩
  rw [if_pos (by simp [Region.wanted]), run_recover]
  rcases hrec with h0 | ⟨h0, rfl, rfl⟩
  · simp only [h0]
    unfold wpOpsSIn
    simp only [List.getElem?_toArray, List.getElem?_cons_succ, List.getElem?_cons_zero]
    refine ⟨fun _ _ => trivial, ?_⟩
    rw [if_pos (by simp [Region.wanted]), e2 cs']
    exact h
  · simp only [h0]
    unfold wpOpsSIn
    simp only [List.getElem?_toArray, List.getElem?_cons_succ, List.getElem?_cons_zero]
    refine ⟨fun _ _ => trivial, ?_⟩
    rw [if_pos (by simp [Region.wanted]), e2 cs']
    exact h
/-- a deferred call that asks recover first -/
theorem clo_intro {f : FuncId} {fn : Func} {args : List Value} {u u' : FrameMode} {id t t2 : Nat} {pos2 : String} {af2 : Array Edge} {ats : Array TypeId} {c2 : Code} {v : Value} {Post : HP → Prop}
    (hf : P.funcs[f]? = some fn) (hb : fn.body = some (.seq (.region id #[⟨some t, .call ⟨.builtin .recover, #[], ats⟩, ty, pos, af, none⟩, ⟨some t2, .assign (.tmp t), T, pos2, af2, none⟩] false) c2)) (hn : fn.ntmps = n)
    (ha : Nat.ble args.length n = true) (ht : Nat.blt t n = true) (ht2 : Nat.blt t2 n = true) (hres : fn.results = #[])
    (hv : (u = .returning ∧ u' = .returning ∧ v = .nilIface) ∨ (∃ older, u = .panicking ({ v := v, recovered := false, goexit := false } :: older) ∧ u' = .panicking ({ v := v, recovered := true } :: older)))
    (h : ∀ Q : Exit → Act → World → Prop, (∀ E H', Post H' → AtQ B Q .normal n E ⟨[], none⟩ H') → WP P B c2 Q n ((t2, v) :: (t, v) :: mkE 0 args) ⟨[], none⟩ H) : FnD P B f args u u' H Post := by
  intro w hw
  refine callsDIn_of_wpSIn (F := fr none) (n := 0) hf hb trivial fun c₀ cs hu => ?_
  have hE0 : EOk n (mkE 0 args) { tmps := args.toArray ++ Array.replicate (fn.ntmps - args.toArray.size) undef, defers := [] } := by
    refine ⟨?_, ?_⟩
    · have : args.length ≤ n := by simpa using ha
      simp [hn]; omega
    · intro t v e
      obtain ⟨_, h2⟩ := lk_mkE args 0 t v e
      simp only [Nat.sub_zero] at h2
      have hlt : t < args.length := (List.getElem?_eq_some_iff.1 h2).1
      simp only []
      rw [Array.getElem?_append_left (by simpa using hlt)]
      simpa using h2
  have hE1 := (hE0.put (by simpa using ht) v).put (t := t2) (by simpa using ht2) v
  refine wpSIn_seq ?_
  have hrec : recoverD (c₀ :: cs) = some (v, { c₀ with mode := u' } :: cs) ∨ (recoverD (c₀ :: cs) = none ∧ v = .nilIface ∧ ({ c₀ with mode := u' } :: cs) = c₀ :: cs) := by
    rcases hv with ⟨h1, h2, h3⟩ | ⟨older, h1, h2⟩
    · right
      refine ⟨by simp [recoverD, hu, h1], h3, ?_⟩
      rw [h2, ← h1, ← hu]
    · left
      simp [recoverD, hu, h1, h2]
  refine s_recover (v := v) (cs' := { c₀ with mode := u' } :: cs) hrec (by rw [hE0.1]; simpa using ht) ?_
  show Code.wpSIn _ _ _ _ _ _ _ _
  refine wpSIn_of_wpIn rfl ?_
  refine h _ (fun E H' hp a w h1 h2 h3 => ?_) _ w hE1 (by rfl) hw
  refine ⟨h2, u', rfl, .tuple #[], ?_, .tuple #[], H', rfl, rfl, hp, h3⟩
  simp [results, hres]
end
end Go.Proofs.YtgfdlpcdjklcoaaDoor
