/- Calls of functions without a body, of methods through an interface; type assertions; no condition. -/
import Derived.Test.YtgfdlpcdjklcoaaDoorMore3
import Derived.Laws.Externs
namespace Go.Proofs.YtgfdlpcdjklcoaaDoor
open Go Go.RowKit
set_option linter.unusedVariables false
class ExtOf (P : Program) (f : FuncId) (e : outParam (Array Value → Sem Value)) : Prop where
  get : ∀ args w, (callFunc f args).run P w = ((e args).run P w).andThen fun v w' => .ok (.value v) w'
class MethOf (P : Program) (t : TypeId) (v : Value) (name : String) (f : outParam FuncId) (r : outParam Value) : Prop where
  get : ∀ w, (method (P.types.size + Made.depth) t v name).run P w = .ok (f, r) w
/-- a cell of the base world -/
theorem rd_base {B : World} {H : HP} {b i : Nat} {v : Value} (h : B.cell? ⟨b, i, none⟩ = some v) : Rd B H b i v True := ⟨fun w hw _ => by
  have hb : b < B.heap.size := by
    rcases Nat.lt_or_ge b B.heap.size with h1 | h1
    · exact h1
    · simp [World.cell?, Array.getElem?_eq_none h1] at h
  have e := hw.1.block b hb
  unfold World.cell? at h ⊢
  rw [e]; exact h⟩
section
variable {P : Program} {B : World} {n : Nat} {E : Env} {D : Dfr} {H : HP} {d : Option Tmp} {T T' ty : TypeId} {pos : String} {af : Array Edge} {g : Option (Nat × Bool)} {x y z : Operand} {ats : Array TypeId}
theorem v_ext {f : FuncId} {e : Array Value → Sem Value} {xs : List Operand} {vs : List Value} {v : Value} [hf : ExtOf P f e] (hx : evs E xs = some vs) (he : ∀ w, Sat B H w → (e vs.toArray).run P w = .ok v w) :
    Val P B n ⟨d, .call ⟨.value (.func f), xs.toArray, ats⟩, ty, pos, af, g⟩ E H v := by
  intro a w h1 hw
  simp only [execOp, resolve, List.map_toArray, evs_eval h1 hx, Act.eval, Deferred.ofValue, Sem.run_bind, Sem.run_pure, Result.andThen_ok, invoke]
  have := hf.get vs.toArray w
  rw [he w hw] at this
  simpa using this
theorem e_ext {f : FuncId} {e : Array Value → Sem Value} {xs : List Operand} {vs : List Value} {Post : Value → HP → Prop} [hf : ExtOf P f e] (hx : evs E xs = some vs)
    (he : ∀ w, Sat B H w → ∃ v w' H', (e vs.toArray).run P w = .ok v w' ∧ Post v H' ∧ Sat B H' w') :
    Eff P B n ⟨d, .call ⟨.value (.func f), xs.toArray, ats⟩, ty, pos, af, g⟩ E D H Post := by
  intro a w h1 _ h3 K Q hk
  obtain ⟨v, w', H', hr, hp, hs⟩ := he w h3
  have hrun : (execOp a.eval ⟨d, .call ⟨.value (.func f), xs.toArray, ats⟩, ty, pos, af, g⟩).run P w = .ok (.value v) w' := by
    simp only [execOp, resolve, List.map_toArray, evs_eval h1 hx, Act.eval, Deferred.ofValue, Sem.run_bind, Sem.run_pure, Result.andThen_ok, invoke]
    have := hf.get vs.toArray w
    rw [hr] at this
    simpa using this
  simp only [Oper.wp, hrun, Oper.upon]
  exact hk v H' w' hp hs
theorem run_inv {f : FuncId} {t : TypeId} {u r : Value} {name : String} [hm : MethOf P t u name f r] (vs : List Value) (w : World) :
    (invoke (.fn (.method name) #[]) (#[.iface t u] ++ vs.toArray)).run P w = (callFunc f (r :: vs).toArray).run P w := by
  have h1 : (#[Value.iface t u] ++ vs.toArray).extract 1 (#[Value.iface t u] ++ vs.toArray).size = vs.toArray := by
    apply Array.toList_inj.1; simp
  have h2 : (#[Value.iface t u] ++ vs.toArray)[0]? = some (.iface t u) := by simp
  simp only [invoke, h2, h1, callMethod, Sem.run_bind, run_program, Result.andThen_ok, hm.get]
  congr 2
  simp
theorem v_inv {f : FuncId} {t : TypeId} {u r v : Value} {name : String} {e : Array Value → Sem Value} {xs : List Operand} {vs : List Value} (hx : ev E x = some (.iface t u)) [hm : MethOf P t u name f r] [hf : ExtOf P f e]
    (hxs : evs E xs = some vs) (he : ∀ w, Sat B H w → (e (r :: vs).toArray).run P w = .ok v w) :
    Val P B n ⟨d, .call ⟨.invoke x name, xs.toArray, ats⟩, ty, pos, af, g⟩ E H v := by
  intro a w h1 hw
  simp only [execOp, resolve, List.map_toArray, evs_eval h1 hxs, h1.ev hx, Sem.run_bind, Sem.run_pure, Result.andThen_ok, run_inv (hm := hm)]
  rw [hf.get, he w hw]; rfl
theorem e_inv {f : FuncId} {t : TypeId} {u r : Value} {name : String} {xs : List Operand} {vs : List Value} {Post : Value → HP → Prop} (hx : ev E x = some (.iface t u)) [hm : MethOf P t u name f r] [hf : CallOk P f]
    (hxs : evs E xs = some vs) (hs : Fn P B f (r :: vs) H Post) : Eff P B n ⟨d, .call ⟨.invoke x name, xs.toArray, ats⟩, ty, pos, af, g⟩ E D H Post := by
  intro a w h1 _ h3 K Q hk
  have hrun : (execOp a.eval ⟨d, .call ⟨.invoke x name, xs.toArray, ats⟩, ty, pos, af, g⟩).run P w = .ok (.enter f (r :: vs).toArray) w := by
    simp only [execOp, resolve, List.map_toArray, evs_eval h1 hxs, h1.ev hx, Sem.run_bind, Sem.run_pure, Result.andThen_ok, run_inv (hm := hm)]
    rw [hf.get]
  simp only [Oper.wp, hrun, Oper.upon]
  refine (hs w h3).mono ?_
  rintro e w' ⟨v, H', rfl, hp, hs'⟩
  exact hk v H' w' hp hs'
theorem v_assert {u v : Value} {ok : Bool} (hx : ev E x = some u) (h : ∀ w, (Instr.typeAssert u T T' ok).run P w = .ok v w) : Val P B n ⟨d, .typeAssert x T T' ok, ty, pos, af, g⟩ E H v := by
  intro a w he _
  simp only [execOp, he.ev hx, Sem.run_bind, h, Result.andThen_ok, Sem.run_pure]
/-- an operator on two values, computed -/
theorem v_bin {op : BinOp} {u v r : Value} (hx : ev E x = some u) (hy : ev E y = some v) (hg : ∀ w, (eqGuard op T x y u v).run P w = .ok () w) (h : ∀ w, (binOp op T u v).run P w = .ok r w) :
    Val P B n ⟨d, .binOp op T x y T', ty, pos, af, g⟩ E H r := by
  intro a w he _
  simp only [execOp, he.ev hx, he.ev hy, Sem.run_bind, hg, h, Result.andThen_ok, Sem.run_pure]
theorem v_negI {i : Int} (hx : ev E x = some (.int .i64 i)) (h : -9223372036854775808 < i ∧ i ≤ 9223372036854775808) : Val P B n ⟨d, .unOp .neg T x, ty, pos, af, g⟩ E H (.int .i64 (-i)) := by
  intro a w he _
  have e : IntKind.i64.wrap (0 - i) = -i := by rw [Int.zero_sub]; exact IntWalk.i64_in _ (by omega)
  simp only [execOp, he.ev hx, Op.unary, Sem.run_bind]
  have h2 : (Op.intArith .sub .i64 0 i).run P w = .ok (.int .i64 (IntKind.i64.wrap (0 - i))) w := rfl
  rw [h2, e]; rfl
end
end Go.Proofs.YtgfdlpcdjklcoaaDoor
