/- Further rules: aggregates, functions' values, stores into rows; no condition. -/
import Derived.Test.YtgfdlpcdjklcoaaDoorBits
namespace Go.Proofs.YtgfdlpcdjklcoaaDoor
open Go Go.RowKit
abbrev ptr (b o : Nat) : Value := .pointer (some ⟨b, o, none⟩)
abbrev iN (n : Nat) : Value := .int .i64 (n : Nat)

class StructPl (P : Program) (t : TypeId) (pl : outParam (Array (Nat × Nat))) : Prop where
  get : ∃ fs, P.underlying t = some (.struct fs) ∧ ∀ w, (fs.mapM fun f => do pure (f.offset, ← sizeOf f.type) : Sem (Array (Nat × Nat))).run P w = .ok pl w
instance {α : Type} [Lay α] (B : World) (b o : Nat) (xs : List α) : RdA B (HP.pts b o (flat xs)) b o xs :=
  ⟨fun i f v h hi w hw => (inferInstance : RdA B (arr b o xs []) b o xs).get i f v h hi w (by unfold arr; rw [List.append_nil]; exact hw)⟩
theorem RdA.dropL {α : Type} [Lay α] {B : World} {H : HP} {b o : Nat} {xs : List α} (h : RdA B H b o xs) (l : Nat) : RdA B H b (o + l * Lay.sz α) (xs.drop l) := by
  have := h.sub l xs.length (Nat.le_refl _)
  rwa [List.take_length] at this
instance (B : World) (H : HP) (b o l : Nat) (xs : List UInt8) [h : RdA B H b o xs] : RdA B H b (o + l * 1) (xs.drop l) := h.dropL l
theorem RdA.drop1 {B : World} {H : HP} {b o : Nat} {xs : List UInt8} (h : RdA B H b o xs) (l : Nat) : RdA B H b (o + l) (xs.drop l) := by
  have : RdA B H b (o + l * 1) (xs.drop l) := inferInstance
  rwa [Nat.mul_one] at this
instance {α : Type} [Lay α] (B : World) (H : HP) (b o l : Nat) (xs : List α) [h : RdA B H b o xs] : RdA B H b o (xs.take l) := by
  rcases Nat.lt_or_ge xs.length l with h1 | h1
  · rw [List.take_of_length_le (by omega)]; exact h
  · have := h.sub 0 l h1
    simpa using this
theorem flat_set1 : ∀ (xs : List UInt8) (i : Nat) (v : UInt8), flat (xs.set i v) = (flat xs).set i (u8 v)
  | [], _, _ => rfl
  | x :: xs, 0, v => rfl
  | x :: xs, i + 1, v => by
    have := flat_set1 xs i v
    simp only [List.set_cons_succ]
    simp only [flat, List.flatMap_cons, enc_u8, List.singleton_append, List.set_cons_succ] at *
    rw [this]
instance (b o i : Nat) (xs : List UInt8) (s : List Value) (v : UInt8) : Upd (arr b o xs s) b (o + i * 1) (u8 v) (arr b o (xs.set i v) s) (i < xs.length) :=
  ⟨fun r hr hi => by
    have hfl : (flat xs).length = xs.length := by rw [flat_length]; simp
    have h : SetN (flat xs ++ s) i (u8 v) ((flat xs ++ s).set i (u8 v)) := ⟨by rw [List.length_append]; omega, rfl⟩
    have h2 := (inferInstance : Upd (HP.pts b o (flat xs ++ s)) b (o + i) (u8 v) (HP.pts b o ((flat xs ++ s).set i (u8 v))) True).upd r hr trivial
    rw [Nat.mul_one]
    refine ⟨h2.1, ?_⟩
    have e : flat (xs.set i v) ++ s = (flat xs ++ s).set i (u8 v) := by rw [flat_set1, List.set_append_left _ _ (by omega)]
    unfold arr
    rw [e]
    exact h2.2⟩
section
variable {P : Program} {B : World} {n : Nat} {E : Env} {D : Dfr} {H : HP} {d : Option Tmp} {T T' ty : TypeId} {pos : String} {af : Array Edge} {g : Option (Nat × Bool)} {x y z : Operand}
theorem v_buildA {len e sz : Nat} {z : Value} {ps : List (Nat × Operand)} {vs : List (Nat × Value)} {cs : List Value} [hT : TyOf P T (.array len e)] [hs : SzOf P e sz] [hz : ZeroOf P T z]
    (hx : evsP E ps = some vs) (hf : Instr.fill (fun i => some (i * sz, sz)) z.cells vs = some cs.toArray) : Val P B n ⟨d, .build T ps.toArray, ty, pos, af, g⟩ E H (.agg cs.toArray) := by
  intro a w he _
  have hm : (ps.toArray.map fun (i, x) => (i, a.eval x)).toList = vs := by rw [List.map_toArray]; exact evsP_eval he hx
  simp only [execOp, Instr.build, Sem.run_bind, hz.get, Result.andThen_ok, run_und hT.get, hs.get, hm, hf, Sem.run_pure]
theorem v_buildS {pl : Array (Nat × Nat)} {z : Value} {ps : List (Nat × Operand)} {vs : List (Nat × Value)} {cs : List Value} [hT : StructPl P T pl] [hz : ZeroOf P T z]
    (hx : evsP E ps = some vs) (hf : Instr.fill (pl[·]?) z.cells vs = some cs.toArray) : Val P B n ⟨d, .build T ps.toArray, ty, pos, af, g⟩ E H (.agg cs.toArray) := by
  intro a w he _
  obtain ⟨fs, h1, h2⟩ := hT.get
  have hm : (ps.toArray.map fun (i, x) => (i, a.eval x)).toList = vs := by rw [List.map_toArray]; exact evsP_eval he hx
  simp only [execOp, Instr.build, Sem.run_bind, hz.get, Result.andThen_ok, run_und h1, h2, hm, hf, Sem.run_pure]
theorem v_func {f : Go.Fn} {xs ys : List Operand} {us vs : List Value} (h1 : evs E xs = some us) (h2 : evs E ys = some vs) :
    Val P B n ⟨d, .makeFunc f xs.toArray ys.toArray, ty, pos, af, g⟩ E H (.func f us.toArray vs.toArray) := by
  intro a w he _
  simp only [execOp, Instr.makeFunc, List.map_toArray, evs_eval he h1, evs_eval he h2]; rfl
theorem v_sliceAk {b o len k : Nat} {e sz : Nat} [hT : TyOf P T (.array len e)] [hz : SzOf P e sz] (hx : ev E x = some (.pointer (some ⟨b, o, none⟩))) (h : k = len) :
    Val P B n ⟨d, .slice T x none none none, ty, pos, af, g⟩ E H (.slice (some ⟨b, o, none⟩) k len) := by subst h; exact v_sliceA hx
theorem v_sliceAlk {b o len l k : Nat} {e sz : Nat} {ik : IntKind} [hT : TyOf P T (.array len e)] [hz : SzOf P e sz] (hx : ev E x = some (.pointer (some ⟨b, o, none⟩))) (hy : ev E y = some (.int ik l)) (h : l ≤ len) (hk : k = len - l) :
    Val P B n ⟨d, .slice T x (some y) none none, ty, pos, af, g⟩ E H (.slice (sp (some ⟨b, o, none⟩) len l sz) k (len - l)) := by subst hk; exact v_sliceAl hx hy h
theorem v_sliceSlk {p : Option Addr} {k k' c sz l : Nat} {e : TypeId} {ik : IntKind} [hT : TyOf P T (.slice e)] [hz : SzOf P e sz] (hx : ev E x = some (.slice p k c)) (hy : ev E y = some (.int ik l))
    (h : l ≤ k) (hk : k' = k - l) : Val P B n ⟨d, .slice T x (some y) none none, ty, pos, af, g⟩ E H (.slice (sp p c l sz) k' (c - l)) := by subst hk; exact v_sliceSl hx hy h
theorem v_sliceShk {p : Option Addr} {k k' c sz h : Nat} {e : TypeId} {ik : IntKind} [hT : TyOf P T (.slice e)] [hz : SzOf P e sz] (hx : ev E x = some (.slice p k c)) (hy : ev E y = some (.int ik h))
    (hc : h ≤ c) (hk : k' = h) : Val P B n ⟨d, .slice T x none (some y) none, ty, pos, af, g⟩ E H (.slice p k' c) := by subst hk; exact v_sliceSh hx hy hc
theorem v_sliceSlhk {p : Option Addr} {k k' c sz l h : Nat} {e : TypeId} {ik jk : IntKind} [hT : TyOf P T (.slice e)] [hz : SzOf P e sz] (hx : ev E x = some (.slice p k c)) (hy : ev E y = some (.int ik l)) (hz' : ev E z = some (.int jk h))
    (hc : l ≤ h ∧ h ≤ c) (hk : k' = h - l) : Val P B n ⟨d, .slice T x (some y) (some z) none, ty, pos, af, g⟩ E H (.slice (sp p c l sz) k' (c - l)) := by subst hk; exact v_sliceSlh hx hy hz' hc
/-- a return that leaves memory behind -/
theorem a_retD {r : Option Nat} {fn : Func} {Post : Value → HP → Prop} {ts : List Nat} {vs : List Value} (H' : HP) (hr : fn.results = (ts.map ResultVar.tmp).toArray) (hv : evs E (ts.map Operand.tmp) = some vs)
    [hE : Ent B H H'] (hp : Post (retOf vs) H') : AtQ B (FPost P B fn Post) .ret n E ⟨[], r⟩ H :=
  fun _ w h1 h2 h3 => ⟨h2, _, results_eval hr h1 hv w, _, _, rfl, hp, hE.get w h3⟩
theorem a_endD {r : Option Nat} {fn : Func} {Post : Value → HP → Prop} {ts : List Nat} {vs : List Value} (H' : HP) (hr : fn.results = (ts.map ResultVar.tmp).toArray) (hv : evs E (ts.map Operand.tmp) = some vs)
    [hE : Ent B H H'] (hp : Post (retOf vs) H') : AtQ B (FPost P B fn Post) .normal n E ⟨[], r⟩ H :=
  fun _ w h1 h2 h3 => ⟨h2, _, results_eval hr h1 hv w, _, _, rfl, hp, hE.get w h3⟩
/-- forget what is not wanted any more -/
theorem w_ent {Q : Exit → Act → World → Prop} {c : Code} (H' : HP) [hE : Ent B H H'] (h : WP P B c Q n E D H') : WP P B c Q n E D H := fun a w h1 h2 h3 => h a w h1 h2 (hE.get w h3)
theorem l_ent {ops : Array Oper} {Q : Exit → Act → World → Prop} {l : List Oper} (H' : HP) [hE : Ent B H H'] (h : WL P B ops Q l n E D H') : WL P B ops Q l n E D H := fun a w h1 h2 h3 => h a w h1 h2 (hE.get w h3)
theorem a_ent {Q : Exit → Act → World → Prop} {e : Exit} (H' : HP) [hE : Ent B H H'] (h : AtQ B Q e n E D H') : AtQ B Q e n E D H := fun a w h1 h2 h3 => h a w h1 h2 (hE.get w h3)
theorem a_heap {Q : Exit → Act → World → Prop} {e : Exit} {H' : HP} (he : H = H') (h : AtQ B Q e n E D H') : AtQ B Q e n E D H := he ▸ h
end
/-- a contract that leaves some memory behind -/
theorem Fn.drop {P : Program} {B : World} {f : FuncId} {args : List Value} {H : HP} {A C : Value → HP → Prop} (h : Fn P B f args H A) (hc : ∀ v H', A v H' → ∃ H'', C v H'' ∧ ∀ w, Sat B H' w → Sat B H'' w) : Fn P B f args H C :=
  fun w hw => (h w hw).mono fun _ _ ⟨v, H', e, a, s⟩ => let ⟨H'', c, i⟩ := hc v H' a; ⟨v, H'', e, c, i _ s⟩
/-- at what a call finds, brought into another form -/
theorem Fn.pre {P : Program} {B : World} {f : FuncId} {args : List Value} {H H' : HP} {A : Value → HP → Prop} (e : H = H') (h : Fn P B f args H' A) : Fn P B f args H A := e ▸ h
end Go.Proofs.YtgfdlpcdjklcoaaDoor
