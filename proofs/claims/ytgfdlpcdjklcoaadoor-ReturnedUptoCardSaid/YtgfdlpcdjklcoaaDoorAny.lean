/- Regions whose order is open, over the small separation logic; no condition. -/
import Derived.Test.YtgfdlpcdjklcoaaDoorEf
import Derived.OrdersIn
namespace Go.Proofs.YtgfdlpcdjklcoaaDoor
open Go Go.RowKit

/-- what stands behind the region does not look at the temporaries where it panics -/
class PQ (Q : Exit → Act → World → Prop) : Prop where
  get : ∀ c a w d v, Q (.panic c) (Act.put a d v) w → Q (.panic c) a w
  out : ∀ a w, ¬ Q .outgrown a w
instance {K : Act → World → Prop} {Q : Exit → Act → World → Prop} [h : PQ Q] : PQ (Exit.then K Q) := ⟨h.get, h.out⟩
instance {id : Nat} {Q : Exit → Act → World → Prop} [h : PQ Q] : PQ (Exit.inBlock id Q) := ⟨h.get, h.out⟩
instance {B : World} {n : Nat} {D : Dfr} {α : Type} {EE : α → Env} {HH : α → HP} {φ : α → Prop} {Q : Exit → Act → World → Prop} [h : PQ Q] : PQ (CutK B n D EE HH φ Q) := ⟨h.get, h.out⟩
instance {P : Program} {B : World} {fn : Func} {Post : Value → HP → Prop} : PQ (FPost P B fn Post) := ⟨by
  intro c a w d v h
  cases d <;> exact h, by rintro a w ⟨v, H', h, _⟩; cases h⟩
def noDefer (ops : Array Oper) : Bool := ops.all fun o => match o.op with | .defer _ => false | _ => true
theorem noDefer_spec {ops : Array Oper} (h : noDefer ops = true) {i : Nat} {o : Oper} (ho : ops[i]? = some o) (c : Call) : o.op ≠ .defer c := by
  simp only [noDefer, Array.all_eq_true_iff_forall_mem] at h
  have := h o (Array.mem_of_getElem? ho)
  intro e; rw [e] at this; cases this
theorem wpOpFr {P : Program} {ops : Array Oper} {Q : Exit → Act → World → Prop} {r : Option Nat} {i : Nat} {K : Act → World → Prop} {a : Act} {w : World} (hd : noDefer ops = true) (hq : ∀ a w, ¬ Q .outgrown a w)
    (h : wpOp P ops Q i K a w) : wpOpIn (fr r) 0 P ops Q i K a w := by
  unfold wpOp at h
  unfold wpOpIn
  cases ho : ops[i]? with
  | none => simpa [ho] using h
  | some o =>
    simp only [ho] at h ⊢
    split
    · rename_i hw
      simp only [hw, if_true] at h
      exact wpFr (noDefer_spec hd ho) (h.resolve_right fun ⟨_, a, w, h1⟩ => hq a w h1)
    · rename_i hw
      simp only [hw] at h
      exact ⟨fun _ _ => trivial, h⟩
theorem wpAnyFr {P : Program} {ops : Array Oper} {Q : Exit → Act → World → Prop} {r : Option Nat} (hd : noDefer ops = true) (hq : ∀ a w, ¬ Q .outgrown a w) : ∀ (fuel : Nat) (ls : Array Bool) (a : Act) (w : World),
    wpAny P .any ops Q fuel ls a w → wpAnyIn (fr r) 0 P .any ops Q fuel ls a w
  | 0, _, _, _, h => h
  | fuel + 1, _, _, _, ⟨h1, h2⟩ => ⟨h1, fun i hi => wpOpIn_mono (fun a w h => wpAnyFr hd hq fuel _ a w h) (wpOpFr hd hq (h2 i hi))⟩
/-- whatever order comes up from here on; a condition holds behind every operation but one, which nothing follows -/
def wpT (P : Program) (ops : Array Oper) (Q : Exit → Act → World → Prop) (S : World → Prop) (last : Nat) : Nat → Array Bool → Act → World → Prop
  | 0, ls, a, w => Region.ready .any ops ls = [] ∧ Q .normal a w
  | fuel + 1, ls, a, w => (Region.ready .any ops ls = [] → Q .normal a w) ∧
      ∀ i ∈ Region.ready .any ops ls, wpOp P ops Q i (fun a' w' => (last ≤ i ∨ S w') ∧ wpT P ops Q S last fuel (ls.setIfInBounds i true) a' w') a w
theorem wpT_any {P : Program} {ops : Array Oper} {Q : Exit → Act → World → Prop} {S : World → Prop} {last : Nat} : ∀ (fuel : Nat) (ls : Array Bool) (a : Act) (w : World),
    wpT P ops Q S last fuel ls a w → wpAny P .any ops Q fuel ls a w
  | 0, _, _, _, h => h
  | fuel + 1, _, _, _, ⟨h1, h2⟩ => ⟨h1, fun i hi => wpOp_mono (fun a' w' h => wpT_any fuel _ a' w' h.2) (h2 i hi)⟩
/-- an operation waits for another, over some steps -/
def waitsT (ops : Array Oper) (i : Nat) : Nat → Nat → Bool
  | 0, _ => false
  | f + 1, k => match ops[k]? with
    | none => false
    | some o => o.after.any (fun e => Region.binds .any e && e.on == i) || o.after.any (fun e => Region.binds .any e && waitsT ops i f e.on)
/-- the last operation waits for this one -/
def waits (ops : Array Oper) (last i : Nat) : Bool := (List.range ops.size).all fun j => Nat.blt j last || waitsT ops i 8 j
/-- what has come up stands behind what it waited for -/
def Closed (ops : Array Oper) (ls : Array Bool) : Prop := ∀ k o, ops[k]? = some o → ls.getD k false = true → ∀ e ∈ o.after, Region.binds .any e = true → ls.getD e.on false = true
def closedB (ops : Array Oper) (ls : Array Bool) : Bool :=
  (List.range ops.size).all fun k => !ls.getD k false || ((ops[k]?).all fun o => o.after.all fun e => !Region.binds .any e || ls.getD e.on false)
theorem closed_of {ops : Array Oper} {ls : Array Bool} (h : closedB ops ls = true) : Closed ops ls := by
  intro k o ho hl e he hb
  simp only [closedB, List.all_eq_true, List.mem_range] at h
  have h1 := h k (Array.getElem?_eq_some_iff.1 ho).1
  rw [ho, hl] at h1
  simp only [Bool.not_true, Bool.false_or, Option.all_some, Array.all_eq_true_iff_forall_mem] at h1
  have h2 := h1 e he
  rw [hb] at h2
  simpa using h2
theorem closed_set {ops : Array Oper} {ls : Array Bool} {j : Nat} (h : Closed ops ls) (hj : j ∈ Region.ready .any ops ls) : Closed ops (ls.setIfInBounds j true) := by
  obtain ⟨_, p, hp, hall⟩ := mem_ready.1 hj
  have up : ∀ m, ls.getD m false = true → (ls.setIfInBounds j true).getD m false = true := fun m hm => by
    by_cases e : j = m
    · subst e
      rcases Nat.lt_or_ge j ls.size with h1 | h1
      · simp [h1]
      · simp [Array.getElem?_eq_none h1] at hm
    · rwa [getD_set_ne false e]
  intro k o ho hl e he hb
  by_cases ek : j = k
  · subst ek
    rw [hp] at ho
    obtain rfl := Option.some.inj ho
    exact up _ (hall e he hb)
  · rw [getD_set_ne false ek] at hl
    exact up _ (h k o ho hl e he hb)
theorem waitsT_listed {ops : Array Oper} {ls : Array Bool} {i : Nat} (h : Closed ops ls) : ∀ (f k : Nat) (o : Oper), ops[k]? = some o → (∀ e ∈ o.after, Region.binds .any e = true → ls.getD e.on false = true) →
    waitsT ops i f k = true → ls.getD i false = true
  | 0, _, _, _, _, hw => by cases hw
  | f + 1, k, o, ho, hall, hw => by
    simp only [waitsT, ho, Bool.or_eq_true, Array.any_eq_true, Bool.and_eq_true, beq_iff_eq] at hw
    rcases hw with ⟨m, hm, hb, he⟩ | ⟨m, hm, hb, he⟩
    · have := hall _ (Array.getElem_mem hm) hb
      rwa [he] at this
    · have h1 := hall _ (Array.getElem_mem hm) hb
      cases h2 : ops[o.after[m].on]? with
      | none =>
        cases f with
        | zero => cases he
        | succ f => simp [waitsT, h2] at he
      | some q => exact waitsT_listed h f _ q h2 (h _ q h2 h1) he
theorem wpT_first {P : Program} {ops : Array Oper} {Q : Exit → Act → World → Prop} {S : World → Prop} {last i : Nat} {o : Oper} {v : Value} (hi : ops[i]? = some o)
    (hsel : Region.noSelect ops = true) (hw : waits ops last i = true) (hQ : ∀ c a w, Q (.panic c) (a.put o.dst v) w → Q (.panic c) a w) :
    ∀ (fuel : Nat) (ls : Array Bool) (a : Act) (w : World), Closed ops ls →
      (∀ j p, ops[j]? = some p → j ≠ i → ls.getD j true = false → (∀ e ∈ p.after, Region.binds .any e = true → e.on ≠ i) → o.apart ops p = true) →
      i ∈ Region.ready .any ops ls → YieldsIf P ops S o v a → S w →
      wpT P ops Q S last fuel (ls.setIfInBounds i true) (a.put o.dst v) w → wpT P ops Q S last (fuel + 1) ls a w := by
  have hsel' := Region.noSelect_spec hsel
  intro fuel
  induction fuel with
  | zero =>
    intro ls a w _ _ hr hy hS h
    refine ⟨fun e => by rw [e] at hr; exact absurd hr (by simp), fun j hj => ?_⟩
    by_cases e : j = i
    · subst e; exact hy.wpOp hi hS ⟨.inr hS, h⟩
    · have := ready_mono hj e
      rw [h.1] at this; exact absurd this (by simp)
  | succ fuel ih =>
    intro ls a w hcl hf hr hy hS h
    refine ⟨fun e => by rw [e] at hr; exact absurd hr (by simp), fun j hj => ?_⟩
    by_cases e : j = i
    · subst e; exact hy.wpOp hi hS ⟨.inr hS, h⟩
    · have h1 := h.2 j (ready_mono hj e)
      obtain ⟨hun, p, hp, hall⟩ := mem_ready.1 hj
      have hnl : ls.getD i true = false := (mem_ready.1 hr).1
      have hnot : ∀ e ∈ p.after, Region.binds .any e = true → e.on ≠ i := fun e he hb heq => by
        have h2 := hall e he hb
        rw [heq] at h2
        rcases Nat.lt_or_ge i ls.size with hlt | hge
        · simp [hlt] at h2 hnl; rw [hnl] at h2; cases h2
        · simp [Array.getElem?_eq_none hge] at h2
      have hjl : ¬ last ≤ j := fun e2 => by
        have hlt := (Array.getElem?_eq_some_iff.1 hp).1
        have hw2 : (Nat.blt j last || waitsT ops i 8 j) = true := by
          simp only [waits, List.all_eq_true, List.mem_range] at hw
          exact hw j hlt
        simp only [Bool.or_eq_true, Nat.blt_eq] at hw2
        have h3 := waitsT_listed hcl 8 j p hp hall (hw2.resolve_left (by omega))
        rcases Nat.lt_or_ge i ls.size with h4 | h4
        · simp [h4] at h3 hnl; rw [hnl] at h3; cases h3
        · simp [Array.getElem?_eq_none h4] at h3
      have h2 := wpOp_putIf hp (hf j p hp e hun hnot) (fun cs b => hsel' i o cs b hi) (fun cs b => hsel' j p cs b hp) hQ hy h1
      refine wpOp_mono (fun a' w' h3 => ?_) h2
      have hS' : S w' := h3.2.1.resolve_left hjl
      refine ⟨.inr hS', ih _ a' w' (closed_set hcl hj) ?_ (ready_mono hr (Ne.symm e)) h3.1 hS' ?_⟩
      · intro k q hq hki hun2 hno
        refine hf k q hq hki ?_ hno
        by_cases hjk : j = k
        · subst hjk; exact hun
        · rwa [getD_set_ne true hjk] at hun2
      · rw [Array.setIfInBounds_comm _ _ e]; exact h3.2.2
def WA (P : Program) (B : World) (ops : Array Oper) (Q : Exit → Act → World → Prop) (R : HP) (last : Nat) (fuel : Nat) (listed : Array Bool) (n : Nat) (E : Env) (D : Dfr) (H : HP) : Prop :=
  ∀ a w, EOk n E a → a.defers = D.ds → Sat B H w → wpT P ops Q (Sat B R) last fuel listed a w
/-- a part of what an assertion holds fits another -/
class Imp (H R : HP) : Prop where
  get : ∀ r, H r → ∃ x y, Res.dj x y ∧ r = x.un y ∧ R x
instance (priority := 2000) (H : HP) : Imp H H := ⟨fun r h => ⟨r, Res.nil, (Res.nil_dj r).symm, (Res.un_nil r).symm, h⟩⟩
instance (priority := 1800) (A C : HP) : Imp (A * C) A := ⟨fun r ⟨x, y, d, e, a, _⟩ => ⟨x, y, d, e, a⟩⟩
instance (priority := 1500) (A C D R : HP) [h : Imp (A * (C * D)) R] : Imp (A * C * D) R := by rw [HP.assoc]; exact h
instance (priority := 1400) (A C D H : HP) [h : Imp H (A * (C * D))] : Imp H (A * C * D) := by rw [HP.assoc]; exact h
instance (priority := 900) (A C R : HP) [h : Imp C R] : Imp (A * C) R := ⟨fun r ⟨x, y, d, e, _, c⟩ => by
  obtain ⟨u, v, d2, e2, hr⟩ := h.get y c
  subst e2
  obtain ⟨d3, d4⟩ := Res.dj_un.1 d
  refine ⟨u, x.un v, Res.dj_un.2 ⟨d3.symm, d2⟩, ?_, hr⟩
  rw [e, ← Res.un_assoc, ← Res.un_assoc, Res.un_comm d3]⟩
instance (priority := 1000) (A C R : HP) [h : Imp C R] : Imp (A * C) (A * R) := ⟨fun r ⟨x, y, d, e, a, c⟩ => by
  obtain ⟨u, v, d2, e2, hr⟩ := h.get y c
  subst e2
  obtain ⟨d3, d4⟩ := Res.dj_un.1 d
  refine ⟨x.un u, v, Res.un_dj.2 ⟨d4, d2⟩, ?_, x, u, d3, rfl, a, hr⟩
  rw [e, Res.un_assoc]⟩
/-- one assertion holds wherever another does -/
class Ent (B : World) (H R : HP) : Prop where
  get : ∀ w, Sat B H w → Sat B R w
instance (B : World) (H R : HP) [h : Imp H R] : Ent B H R := ⟨fun _ ⟨h1, r, hr, hl⟩ => by
  obtain ⟨x, y, _, e, hx⟩ := h.get r hr
  exact ⟨h1, x, hx, (e ▸ hl).left⟩⟩
theorem Ent.emp (B : World) (H : HP) : Ent B H HP.emp := ⟨fun _ h => h.emp⟩
theorem Ent.of {B : World} {A H R : HP} (h : H = A * R) : Ent B H R := ⟨fun _ hw => (h ▸ hw).right⟩
/-- all that is asked of an operation that is taken first -/
def takes (ops : Array Oper) (ls : Array Bool) (last i : Nat) : Bool :=
  Region.noSelect ops && Region.free .any ops ls i && (Region.ready .any ops ls).contains i && waits ops last i && closedB ops ls
section
variable {P : Program} {B : World} {n : Nat} {E : Env} {D : Dfr} {H R : HP} {ops : Array Oper} {Q : Exit → Act → World → Prop} {fuel last : Nat} {ls : Array Bool}
  {op : Op} {ty : TypeId} {pos : String} {af : Array Edge}
theorem w_any {id : Nat} (R : HP) (last k : Nat) (hm : P.follows .mixedOrders = true) (hk : ops.size = k) [hq : PQ Q] (hd : noDefer ops = true) (h : WA P B ops Q R last k (Array.replicate k false) n E D H) : WP P B (.region id ops true) Q n E D H :=
  fun a _ h1 h2 h3 => wpIn_region_any hm (by rw [hk]; exact wpAnyFr hd hq.out _ _ _ _ (wpT_any _ _ _ _ (h a _ h1 h2 h3.drewN)))
theorem w_anyH {id : Nat} (last k : Nat) (hm : P.follows .mixedOrders = true) (hk : ops.size = k) [hq : PQ Q] (hd : noDefer ops = true) (h : WA P B ops Q H last k (Array.replicate k false) n E D H) : WP P B (.region id ops true) Q n E D H :=
  w_any H last k hm hk hd h
theorem s_take (i : Nat) {t : Nat} {v : Value} (hi : ops[i]? = some ⟨some t, op, ty, pos, af, none⟩) (hk : takes ops ls last i = true) [hq : PQ Q] [hE : Ent B H R] (ht : Nat.blt t n = true)
    (hv : Val P B n ⟨some t, op, ty, pos, af, none⟩ E R v) (next : WA P B ops Q R last fuel (ls.setIfInBounds i true) n ((t, v) :: E) D H) :
    WA P B ops Q R last (fuel + 1) ls n E D H := by
  intro a w h1 h2 h3
  simp only [takes, Bool.and_eq_true] at hk
  obtain ⟨⟨⟨⟨hs, hf⟩, hr⟩, hl⟩, hcl⟩ := hk
  refine wpT_first hi hs hl (fun c a w => hq.get c a w _ _) fuel ls a w (closed_of hcl) (Region.free_spec hi hf) (by simpa using hr) (.inl ⟨by simp [Region.wanted], fun w' hw' => hv a w' h1 hw'⟩) (hE.get w h3) ?_
  exact next _ w (h1.put (by simpa using ht) v) (by simp [Act.put, h2]) h3
theorem s_takeG (i : Nat) {t j tj : Nat} {v : Value} {b : Bool} (hi : ops[i]? = some ⟨some t, op, ty, pos, af, some (j, b)⟩) (hk : takes ops ls last i = true) [hq : PQ Q] [hE : Ent B H R] (ht : Nat.blt t n = true)
    (hj : (ops[j]?).bind (·.dst) = some tj) (hb : lk E tj = some (.bool b))
    (hv : Val P B n ⟨some t, op, ty, pos, af, none⟩ E R v) (next : WA P B ops Q R last fuel (ls.setIfInBounds i true) n ((t, v) :: E) D H) :
    WA P B ops Q R last (fuel + 1) ls n E D H := by
  intro a w h1 h2 h3
  have hy : yielded ops a.tmps j = some b := by
    have := h1.2 _ _ hb
    simp [yielded, hj, this]
  simp only [takes, Bool.and_eq_true] at hk
  obtain ⟨⟨⟨⟨hs, hf⟩, hr⟩, hl⟩, hcl⟩ := hk
  refine wpT_first hi hs hl (fun c a w => hq.get c a w _ _) fuel ls a w (closed_of hcl) (Region.free_spec hi hf) (by simpa using hr) (.inl ⟨by simp [Region.wanted, hy], fun w' hw' => hv a w' h1 hw'⟩) (hE.get w h3) ?_
  exact next _ w (h1.put (by simpa using ht) v) (by simp [Act.put, h2]) h3
theorem s_skip (i : Nat) {t j tj : Nat} {b want : Bool} (hi : ops[i]? = some ⟨some t, op, ty, pos, af, some (j, want)⟩) (hk : takes ops ls last i = true) [hq : PQ Q] [hE : Ent B H R] (ht : Nat.blt t n = true)
    (hj : (ops[j]?).bind (·.dst) = some tj) (hb : lk E tj = some (.bool b)) (hne : b = !want)
    (next : WA P B ops Q R last fuel (ls.setIfInBounds i true) n ((t, undef) :: E) D H) :
    WA P B ops Q R last (fuel + 1) ls n E D H := by
  intro a w h1 h2 h3
  have hy : yielded ops a.tmps j = some b := by
    have := h1.2 _ _ hb
    simp [yielded, hj, this]
  simp only [takes, Bool.and_eq_true] at hk
  obtain ⟨⟨⟨⟨hs, hf⟩, hr⟩, hl⟩, hcl⟩ := hk
  refine wpT_first hi hs hl (fun c a w => hq.get c a w _ _) fuel ls a w (closed_of hcl) (Region.free_spec hi hf) (by simpa using hr) (.inr ⟨by rw [hne] at hy; cases want <;> simp [Region.wanted, hy], rfl⟩) (hE.get w h3) ?_
  exact next _ w (h1.put (by simpa using ht) undef) (by simp [Act.put, h2]) h3
theorem s_eff (i : Nat) {t : Nat} {Post : Value → HP → Prop} (hr : Region.ready .any ops ls = [i]) (hi : ops[i]? = some ⟨some t, op, ty, pos, af, none⟩) (ht : Nat.blt t n = true)
    (he : Eff P B n ⟨some t, op, ty, pos, af, none⟩ E D H Post)
    (next : ∀ v H', Post v H' → (last ≤ i ∨ Ent B H' R) ∧ WA P B ops Q R last fuel (ls.setIfInBounds i true) n ((t, v) :: E) D H') :
    WA P B ops Q R last (fuel + 1) ls n E D H := by
  intro a w h1 h2 h3
  refine ⟨(fun h0 => by rw [hr] at h0; cases h0), fun j hj => ?_⟩
  rw [hr] at hj
  obtain rfl := List.mem_singleton.1 hj
  unfold wpOp
  rw [hi]
  simp only [Region.wanted, if_true]
  refine .inl (he a w h1 h2 h3 _ _ fun v H' w' hp hs => ?_)
  obtain ⟨n1, n2⟩ := next v H' hp
  exact ⟨n1.imp id (fun h => h.get w' hs), n2 _ w' (h1.put (by simpa using ht) v) (by simp [Act.put, h2]) hs⟩
theorem s_eff0 (i : Nat) {Post : Value → HP → Prop} (hr : Region.ready .any ops ls = [i]) (hi : ops[i]? = some ⟨none, op, ty, pos, af, none⟩)
    (he : Eff P B n ⟨none, op, ty, pos, af, none⟩ E D H Post)
    (next : ∀ v H', Post v H' → (last ≤ i ∨ Ent B H' R) ∧ WA P B ops Q R last fuel (ls.setIfInBounds i true) n E D H') :
    WA P B ops Q R last (fuel + 1) ls n E D H := by
  intro a w h1 h2 h3
  refine ⟨(fun h0 => by rw [hr] at h0; cases h0), fun j hj => ?_⟩
  rw [hr] at hj
  obtain rfl := List.mem_singleton.1 hj
  unfold wpOp
  rw [hi]
  simp only [Region.wanted, if_true]
  refine .inl (he a w h1 h2 h3 _ _ fun v H' w' hp hs => ?_)
  obtain ⟨n1, n2⟩ := next v H' hp
  exact ⟨n1.imp id (fun h => h.get w' hs), n2 _ w' h1 h2 hs⟩
/-- an operation without effect that alone may come up -/
theorem s_val (i : Nat) {t : Nat} {v : Value} (hr : Region.ready .any ops ls = [i]) (hi : ops[i]? = some ⟨some t, op, ty, pos, af, none⟩) (ht : Nat.blt t n = true)
    (hv : Val P B n ⟨some t, op, ty, pos, af, none⟩ E H v) (hR : last ≤ i ∨ Ent B H R) (next : WA P B ops Q R last fuel (ls.setIfInBounds i true) n ((t, v) :: E) D H) :
    WA P B ops Q R last (fuel + 1) ls n E D H :=
  s_eff i hr hi ht (Post := fun v' H' => v' = v ∧ H' = H) (fun a w h1 _ h3 K Q hk => by simp only [Oper.wp, hv a w h1 h3, Oper.upon]; exact hk _ _ _ ⟨rfl, rfl⟩ h3) (by rintro _ _ ⟨rfl, rfl⟩; exact ⟨hR, next⟩)
theorem s_heap {H' : HP} (e : H = H') (h : WA P B ops Q R last fuel ls n E D H') : WA P B ops Q R last fuel ls n E D H := e ▸ h
theorem s_done (hr : Region.ready .any ops ls = []) (h : AtQ B Q .normal n E D H) : WA P B ops Q R last fuel ls n E D H :=
  fun a w h1 h2 h3 => by
    cases fuel with
    | zero => exact ⟨hr, h a w h1 h2 h3⟩
    | succ fuel => exact ⟨fun _ => h a w h1 h2 h3, fun i hi => by rw [hr] at hi; cases hi⟩
/-- two operations that may come up, either first -/
theorem s_two (i j : Nat) (hr : Region.ready .any ops ls = [i, j]) {oi oj : Oper} {Pi Pj : Value → HP → Prop} {ti tj : Nat} (hi : ops[i]? = some oi) (hj : ops[j]? = some oj)
    (di : oi.dst = some ti) (dj : oj.dst = some tj) (gi : oi.guard = none) (gj : oj.guard = none) (hti : Nat.blt ti n = true) (htj : Nat.blt tj n = true)
    (ei : Eff P B n oi E D H Pi) (ej : Eff P B n oj E D H Pj)
    (ni : ∀ v H', Pi v H' → (last ≤ i ∨ Ent B H' R) ∧ WA P B ops Q R last fuel (ls.setIfInBounds i true) n ((ti, v) :: E) D H')
    (nj : ∀ v H', Pj v H' → (last ≤ j ∨ Ent B H' R) ∧ WA P B ops Q R last fuel (ls.setIfInBounds j true) n ((tj, v) :: E) D H') :
    WA P B ops Q R last (fuel + 1) ls n E D H := by
  intro a w h1 h2 h3
  refine ⟨(fun h0 => by rw [hr] at h0; cases h0), fun k hk => ?_⟩
  rw [hr] at hk
  rcases List.mem_cons.1 hk with rfl | hk
  · unfold wpOp
    rw [hi]
    simp only [Region.wanted, gi, if_true]
    refine .inl (ei a w h1 h2 h3 _ _ fun v H' w' hp hs => ?_)
    obtain ⟨n1, n2⟩ := ni v H' hp
    exact ⟨n1.imp id (fun h => h.get w' hs), n2 _ w' (by rw [di]; exact h1.put (by simpa using hti) v) (by rw [di]; simp [Act.put, h2]) hs⟩
  · obtain rfl := List.mem_singleton.1 hk
    unfold wpOp
    rw [hj]
    simp only [Region.wanted, gj, if_true]
    refine .inl (ej a w h1 h2 h3 _ _ fun v H' w' hp hs => ?_)
    obtain ⟨n1, n2⟩ := nj v H' hp
    exact ⟨n1.imp id (fun h => h.get w' hs), n2 _ w' (by rw [dj]; exact h1.put (by simpa using htj) v) (by rw [dj]; simp [Act.put, h2]) hs⟩
end
end Go.Proofs.YtgfdlpcdjklcoaaDoor
