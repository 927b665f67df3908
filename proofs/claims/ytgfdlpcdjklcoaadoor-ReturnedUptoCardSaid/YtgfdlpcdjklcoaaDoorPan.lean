/- Calls that may panic, functions that panic, deferred calls that recover, over the small separation logic; no condition. -/
import Derived.Test.YtgfdlpcdjklcoaaDoorExt
import Derived.RecoverIn
namespace Go.Proofs.YtgfdlpcdjklcoaaDoor
open Go Go.RowKit
set_option linter.unusedVariables false

/-- a call's contract: it returns, or it panics -/
def FnX (P : Program) (B : World) (f : FuncId) (args : List Value) (H : HP) (Post : Value → HP → Prop) (Px : List PanicEntry → HP → Prop) : Prop :=
  ∀ w, Sat B H w → Calls P f args.toArray w fun e w' => (∃ v H', e = .returned v ∧ Post v H' ∧ Sat B H' w') ∨ (∃ c H', e = .panicked c ∧ Px c H' ∧ Sat B H' w')
theorem Fn.toX {P : Program} {B : World} {f : FuncId} {args : List Value} {H : HP} {Post : Value → HP → Prop} {Px : List PanicEntry → HP → Prop} (h : Fn P B f args H Post) : FnX P B f args H Post Px :=
  fun w hw => (h w hw).mono fun _ _ h => .inl h
theorem FnX.toFn {P : Program} {B : World} {f : FuncId} {args : List Value} {H : HP} {Post : Value → HP → Prop} {Px : List PanicEntry → HP → Prop} (h : FnX P B f args H Post Px) (hn : ∀ c H', ¬ Px c H') : Fn P B f args H Post :=
  fun w hw => (h w hw).mono fun _ _ h => h.resolve_right fun ⟨c, H', _, hp, _⟩ => hn c H' hp
theorem FnX.mono {P : Program} {B : World} {f : FuncId} {args : List Value} {H : HP} {A C : Value → HP → Prop} {Ax Cx : List PanicEntry → HP → Prop} (h : FnX P B f args H A Ax)
    (hc : ∀ v H', A v H' → C v H') (hx : ∀ c H', Ax c H' → Cx c H') : FnX P B f args H C Cx :=
  fun w hw => (h w hw).mono fun _ _ h => h.imp (fun ⟨v, H', e, a, s⟩ => ⟨v, H', e, hc v H' a, s⟩) (fun ⟨c, H', e, a, s⟩ => ⟨c, H', e, hx c H' a, s⟩)
/-- the panics of this program's reader -/
abbrev pn (v : Value) : List PanicEntry := [{ v, recovered := false }]

section
variable {P : Program} {B : World} {n : Nat} {E : Env} {D : Dfr} {H R : HP} {d : Option Tmp} {T T' ty : TypeId} {pos : String} {af : Array Edge} {g : Option (Nat × Bool)} {x y z : Operand}
  {ops : Array Oper} {Q : Exit → Act → World → Prop} {rest : List Oper} {op : Op} {fuel last : Nat} {ls : Array Bool}

/-- what an operation may yield, or panic with -/
def EffX (P : Program) (B : World) (n : Nat) (o : Oper) (E : Env) (D : Dfr) (H : HP) (Post : Value → HP → Prop) (Px : List PanicEntry → HP → Prop) : Prop :=
  (∀ c, o.op ≠ .defer c) ∧ ∀ a w, EOk n E a → a.defers = D.ds → Sat B H w → ∀ (K : Act → World → Prop) (Q : Exit → Act → World → Prop),
    (∀ v H' w', Post v H' → Sat B H' w' → K (a.put o.dst v) w') → (∀ c H' w', Px c H' → Sat B H' w' → Q (.panic c) a w') → o.wp P a w K Q
theorem l_effX {t : Nat} {Post : Value → HP → Prop} {Px : List PanicEntry → HP → Prop} (he : EffX P B n ⟨some t, op, ty, pos, af, none⟩ E D H Post Px) (ht : Nat.blt t n = true)
    (next : ∀ v H', Post v H' → WL P B ops Q rest n ((t, v) :: E) D H') (px : ∀ c H', Px c H' → AtQ B Q (.panic c) n E D H') : WL P B ops Q (⟨some t, op, ty, pos, af, none⟩ :: rest) n E D H := by
  intro a w h1 h2 h3
  unfold wpListIn
  rw [if_pos (by simp [Region.wanted])]
  exact wpFr he.1 (he.2 a w h1 h2 h3 _ _ (fun v H' w' hp hs => next v H' hp _ w' (h1.put (by simpa using ht) v) (by simp [Act.put, h2]) hs) (fun c H' w' hp hs => px c H' hp a w' h1 h2 hs))
theorem l_effX0 {Post : Value → HP → Prop} {Px : List PanicEntry → HP → Prop} (he : EffX P B n ⟨none, op, ty, pos, af, none⟩ E D H Post Px)
    (next : ∀ v H', Post v H' → WL P B ops Q rest n E D H') (px : ∀ c H', Px c H' → AtQ B Q (.panic c) n E D H') : WL P B ops Q (⟨none, op, ty, pos, af, none⟩ :: rest) n E D H := by
  intro a w h1 h2 h3
  unfold wpListIn
  rw [if_pos (by simp [Region.wanted])]
  exact wpFr he.1 (he.2 a w h1 h2 h3 _ _ (fun v H' w' hp hs => next v H' hp _ w' h1 h2 hs) (fun c H' w' hp hs => px c H' hp a w' h1 h2 hs))
theorem s_effX (i : Nat) {t : Nat} {Post : Value → HP → Prop} {Px : List PanicEntry → HP → Prop} (hr : Region.ready .any ops ls = [i]) (hi : ops[i]? = some ⟨some t, op, ty, pos, af, none⟩) (ht : Nat.blt t n = true)
    (he : EffX P B n ⟨some t, op, ty, pos, af, none⟩ E D H Post Px)
    (next : ∀ v H', Post v H' → (last ≤ i ∨ Ent B H' R) ∧ WA P B ops Q R last fuel (ls.setIfInBounds i true) n ((t, v) :: E) D H') (px : ∀ c H', Px c H' → AtQ B Q (.panic c) n E D H') :
    WA P B ops Q R last (fuel + 1) ls n E D H := by
  intro a w h1 h2 h3
  refine ⟨(fun h0 => by rw [hr] at h0; cases h0), fun j hj => ?_⟩
  rw [hr] at hj
  obtain rfl := List.mem_singleton.1 hj
  unfold wpOp
  rw [hi]
  simp only [Region.wanted, if_true]
  refine .inl (he.2 a w h1 h2 h3 _ _ (fun v H' w' hp hs => ?_) (fun c H' w' hp hs => px c H' hp a w' h1 h2 hs))
  obtain ⟨n1, n2⟩ := next v H' hp
  exact ⟨n1.imp id (fun h => h.get w' hs), n2 _ w' (h1.put (by simpa using ht) v) (by simp [Act.put, h2]) hs⟩
theorem s_effX0 (i : Nat) {Post : Value → HP → Prop} {Px : List PanicEntry → HP → Prop} (hr : Region.ready .any ops ls = [i]) (hi : ops[i]? = some ⟨none, op, ty, pos, af, none⟩)
    (he : EffX P B n ⟨none, op, ty, pos, af, none⟩ E D H Post Px)
    (next : ∀ v H', Post v H' → (last ≤ i ∨ Ent B H' R) ∧ WA P B ops Q R last fuel (ls.setIfInBounds i true) n E D H') (px : ∀ c H', Px c H' → AtQ B Q (.panic c) n E D H') :
    WA P B ops Q R last (fuel + 1) ls n E D H := by
  intro a w h1 h2 h3
  refine ⟨(fun h0 => by rw [hr] at h0; cases h0), fun j hj => ?_⟩
  rw [hr] at hj
  obtain rfl := List.mem_singleton.1 hj
  unfold wpOp
  rw [hi]
  simp only [Region.wanted, if_true]
  refine .inl (he.2 a w h1 h2 h3 _ _ (fun v H' w' hp hs => ?_) (fun c H' w' hp hs => px c H' hp a w' h1 h2 hs))
  obtain ⟨n1, n2⟩ := next v H' hp
  exact ⟨n1.imp id (fun h => h.get w' hs), n2 _ w' h1 h2 hs⟩
/-- calls -/
theorem x_call {f : FuncId} {xs : List Operand} {vs : List Value} {ats : Array TypeId} {Post : Value → HP → Prop} {Px : List PanicEntry → HP → Prop} [hf : CallOk P f] (hx : evs E xs = some vs) (hs : FnX P B f vs H Post Px) :
    EffX P B n ⟨d, .call ⟨.value (.func f), xs.toArray, ats⟩, ty, pos, af, g⟩ E D H Post Px := by
  refine ⟨fun c h => by simp at h, ?_⟩
  intro a w h1 _ h3 K Q hk hp
  have hrun : (execOp a.eval ⟨d, .call ⟨.value (.func f), xs.toArray, ats⟩, ty, pos, af, g⟩).run P w = .ok (.enter f vs.toArray) w := by
    simp only [execOp, resolve, List.map_toArray, evs_eval h1 hx, Act.eval, Deferred.ofValue, Sem.run_bind, Sem.run_pure, Result.andThen_ok, invoke]
    simp [hf.get]
  simp only [Oper.wp, hrun, Oper.upon]
  refine (hs w h3).mono ?_
  rintro e w' (⟨v, H', rfl, hq, hs'⟩ | ⟨c, H', rfl, hq, hs'⟩)
  · exact hk v H' w' hq hs'
  · exact hp c H' w' hq hs'
theorem x_callV {f : FuncId} {t : Operand} {xs : List Operand} {vs us : List Value} {ats : Array TypeId} {Post : Value → HP → Prop} {Px : List PanicEntry → HP → Prop} [hf : CallOk P f]
    (ht : ev E t = some (.func (.func f) #[] us.toArray)) (hx : evs E xs = some vs) (hs : FnX P B f (vs ++ us) H Post Px) :
    EffX P B n ⟨d, .call ⟨.value t, xs.toArray, ats⟩, ty, pos, af, g⟩ E D H Post Px := by
  refine ⟨fun c h => by simp at h, ?_⟩
  intro a w h1 _ h3 K Q hk hp
  have hrun : (execOp a.eval ⟨d, .call ⟨.value t, xs.toArray, ats⟩, ty, pos, af, g⟩).run P w = .ok (.enter f (vs ++ us).toArray) w := by
    simp only [execOp, resolve, List.map_toArray, evs_eval h1 hx, h1.ev ht, Deferred.ofValue, Sem.run_bind, Sem.run_pure, Result.andThen_ok, invoke]
    simp [hf.get]
  simp only [Oper.wp, hrun, Oper.upon]
  refine (hs w h3).mono ?_
  rintro e w' (⟨v, H', rfl, hq, hs'⟩ | ⟨c, H', rfl, hq, hs'⟩)
  · exact hk v H' w' hq hs'
  · exact hp c H' w' hq hs'
/-- the panic itself -/
theorem x_panic {t : TypeId} {v : Value} {Post : Value → HP → Prop} (hx : ev E x = some (.iface t v)) : EffX P B n ⟨d, .panic x, ty, pos, af, g⟩ E D H Post (fun c H' => c = pn (.iface t v) ∧ H' = H) := by
  refine ⟨fun c h => by simp at h, ?_⟩
  intro a w h1 _ h3 K Q hk hp
  have hrun : (execOp a.eval ⟨d, .panic x, ty, pos, af, g⟩).run P w = .halt (.panic (.iface t v)) w := by
    simp [execOp, h1.ev hx, Instr.panic]
  simp only [Oper.wp, hrun, Oper.upon]
  exact hp _ _ _ ⟨rfl, rfl⟩ h3

/-! ### ways out -/
variable {c : List PanicEntry}
theorem a_tpanic {K : Act → World → Prop} (h : AtQ B Q (.panic c) n E D H) : AtQ B (Exit.then K Q) (.panic c) n E D H := h
theorem a_bpanic {id : Nat} (h : AtQ B Q (.panic c) n E D H) : AtQ B (Exit.inBlock id Q) (.panic c) n E D H := h
theorem a_cpanic {α : Type} {EE : α → Env} {HH : α → HP} {φ : α → Prop} (h : AtQ B Q (.panic c) n E D H) : AtQ B (CutK B n D EE HH φ Q) (.panic c) n E D H := h
def FPostX (P : Program) (B : World) (fn : Func) (Post : Value → HP → Prop) (Px : List PanicEntry → HP → Prop) : Exit → Act → World → Prop :=
  bodyPost P fn fun e w' => (∃ v H', e = .returned v ∧ Post v H' ∧ Sat B H' w') ∨ (∃ c H', e = .panicked c ∧ Px c H' ∧ Sat B H' w')
instance {P : Program} {B : World} {fn : Func} {Post : Value → HP → Prop} {Px : List PanicEntry → HP → Prop} : PQ (FPostX P B fn Post Px) := ⟨by
  intro c a w d v h
  cases d <;> exact h, by rintro a w (⟨v, H', h, _⟩ | ⟨v, H', h, _⟩) <;> cases h⟩
theorem fn_introX {c : Code} {f : FuncId} {fn : Func} {args : List Value} {Post : Value → HP → Prop} {Px : List PanicEntry → HP → Prop} (hf : P.funcs[f]? = some fn) (hb : fn.body = some c) (hn : fn.ntmps = n)
    (ha : Nat.ble args.length n = true) (h : WP P B c (FPostX P B fn Post Px) n (mkE 0 args) ⟨[], none⟩ H) : FnX P B f args H Post Px := by
  intro w hw
  refine calls_of_wp hf hb (wpIn_wide.1 (h _ w ⟨?_, ?_⟩ rfl hw))
  · have : args.length ≤ n := by simpa using ha
    simp [hn]; omega
  · intro t v e
    obtain ⟨_, h2⟩ := lk_mkE args 0 t v e
    simp only [Nat.sub_zero] at h2
    have hlt : t < args.length := (List.getElem?_eq_some_iff.1 h2).1
    simp only []
    rw [Array.getElem?_append_left (by simpa using hlt)]
    simpa using h2
theorem a_panicX {r : Option Nat} {fn : Func} {Post : Value → HP → Prop} {Px : List PanicEntry → HP → Prop} (hp : Px c H) : AtQ B (FPostX P B fn Post Px) (.panic c) n E ⟨[], r⟩ H :=
  fun _ w h1 h2 h3 => ⟨h2, .inr ⟨_, _, rfl, hp, h3⟩⟩
theorem a_panicXE {r : Option Nat} {fn : Func} {Post : Value → HP → Prop} {Px : List PanicEntry → HP → Prop} (H' : HP) [hE : Ent B H H'] (hp : Px c H') : AtQ B (FPostX P B fn Post Px) (.panic c) n E ⟨[], r⟩ H :=
  fun _ w h1 h2 h3 => ⟨h2, .inr ⟨_, _, rfl, hp, hE.get w h3⟩⟩
theorem a_retX {r : Option Nat} {fn : Func} {Post : Value → HP → Prop} {Px : List PanicEntry → HP → Prop} {ts : List Nat} {vs : List Value} (hr : fn.results = (ts.map ResultVar.tmp).toArray) (hv : evs E (ts.map Operand.tmp) = some vs)
    (hp : Post (retOf vs) H) : AtQ B (FPostX P B fn Post Px) .ret n E ⟨[], r⟩ H :=
  fun _ w h1 h2 h3 => ⟨h2, _, results_eval hr h1 hv w, .inl ⟨_, _, rfl, hp, h3⟩⟩
theorem a_retXD {r : Option Nat} {fn : Func} {Post : Value → HP → Prop} {Px : List PanicEntry → HP → Prop} {ts : List Nat} {vs : List Value} (H' : HP) [hE : Ent B H H'] (hr : fn.results = (ts.map ResultVar.tmp).toArray) (hv : evs E (ts.map Operand.tmp) = some vs)
    (hp : Post (retOf vs) H') : AtQ B (FPostX P B fn Post Px) .ret n E ⟨[], r⟩ H :=
  fun _ w h1 h2 h3 => ⟨h2, _, results_eval hr h1 hv w, .inl ⟨_, _, rfl, hp, hE.get w h3⟩⟩
theorem a_endX {r : Option Nat} {fn : Func} {Post : Value → HP → Prop} {Px : List PanicEntry → HP → Prop} {ts : List Nat} {vs : List Value} (hr : fn.results = (ts.map ResultVar.tmp).toArray) (hv : evs E (ts.map Operand.tmp) = some vs)
    (hp : Post (retOf vs) H) : AtQ B (FPostX P B fn Post Px) .normal n E ⟨[], r⟩ H :=
  fun _ w h1 h2 h3 => ⟨h2, _, results_eval hr h1 hv w, .inl ⟨_, _, rfl, hp, h3⟩⟩
/-! ### guards that were not reached themselves -/
theorem l_gU {t j tj : Nat} {want : Bool} (hj : (ops[j]?).bind (·.dst) = some tj) (hb : lk E tj = some undef) (ht : Nat.blt t n = true)
    (next : WL P B ops Q rest n ((t, undef) :: E) D H) : WL P B ops Q (⟨some t, op, ty, pos, af, some (j, want)⟩ :: rest) n E D H := by
  intro a w h1 h2 h3
  have hy : yielded ops a.tmps j = none := by
    have := h1.2 _ _ hb
    unfold yielded
    rw [hj, Option.bind_some, this]; rfl
  unfold wpListIn
  rw [if_neg (by simp [Region.wanted, hy])]
  exact ⟨fun _ _ => trivial, next _ w (h1.put (by simpa using ht) undef) (by simp [Act.put, h2]) h3⟩
theorem s_gU (i : Nat) {t j tj : Nat} {want : Bool} (hi : ops[i]? = some ⟨some t, op, ty, pos, af, some (j, want)⟩) (hk : takes ops ls last i = true) [hq : PQ Q] [hE : Ent B H R] (ht : Nat.blt t n = true)
    (hj : (ops[j]?).bind (·.dst) = some tj) (hb : lk E tj = some undef)
    (next : WA P B ops Q R last fuel (ls.setIfInBounds i true) n ((t, undef) :: E) D H) :
    WA P B ops Q R last (fuel + 1) ls n E D H := by
  intro a w h1 h2 h3
  have hy : yielded ops a.tmps j = none := by
    have := h1.2 _ _ hb
    unfold yielded
    rw [hj, Option.bind_some, this]; rfl
  simp only [takes, Bool.and_eq_true] at hk
  obtain ⟨⟨⟨⟨hs, hf⟩, hr⟩, hl⟩, hcl⟩ := hk
  refine wpT_first hi hs hl (fun c a w => hq.get c a w _ _) fuel ls a w (closed_of hcl) (Region.free_spec hi hf) (by simpa using hr) (.inr ⟨by simp [Region.wanted, hy], rfl⟩) (hE.get w h3) ?_
  exact next _ w (h1.put (by simpa using ht) undef) (by simp [Act.put, h2]) h3
end
end Go.Proofs.YtgfdlpcdjklcoaaDoor
