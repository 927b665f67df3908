/- The law Returned of package sealstreamkeep returns true for every input of bulk at most 1048576: what is encoded and sealed comes back, and nothing else does; no condition. -/
import Derived.Test.YtgfdlpcdjklcoaaDoorOpen
import Derived.Test.YtgfdlpcdjklcoaaDoorLawReturned
namespace Go.Proofs.YtgfdlpcdjklcoaaDoor.lawReturned
open Go Go.ChangeShapes Go.WideShapes Go.ChangeAt Go.RowKit
open Go.ChangeMaps (open_string shut_string)
set_option linter.unusedVariables false

set_option maxRecDepth 100000 in
theorem contract (H : Type) (enc : TypeId × Value → H) (W : World) (base : Nat) (args : Array Value) (ds gs : List (DataW H)) (before : List MemPlace)
    (hval : ∀ (j : Nat) t v, Tryd.f5.params[j]? = some t → args[j]? = some v → Value.okWide Tryd.prog W .any base t v)
    (hW : DataW.Whole enc Tryd.prog Tryd.f5.params.toList Rows.returnedSpec.vars false W args.toList ds gs before) (hk : Rows.uptoBulkAll (ds ++ gs) ≤ 1048576) (hL : laidMetH Tryd.prog Rows.returnedRow.laid W) :
    Calls Tryd.prog 5 args W fun e W' => ∃ v, e = .returned v ∧ Rows.returnedSpec.post enc Tryd.prog Tryd.f5 false true false false W args v W' := by
  have hW' := hW
  obtain ⟨p, q, hA0, hV, rfl, hfz, hnd⟩ := hW
  have hA : DataW.TrodAll enc Tryd.prog W 0 (fun _ => true) true Tryd.f5.params.toList args.toList ds p := hA0
  rw [Tryd.params5] at hA hval
  obtain ⟨v0, vs0, d0, ds0, p0, q0, hargs, rfl, rfl, h0, r0⟩ := trodAll_cons hA
  obtain ⟨v1, vs1, d1, ds1, p1, q1, rfl, rfl, rfl, h1, r1⟩ := trodAll_cons r0
  obtain ⟨v2, vs2, d2, ds2, p2, q2, rfl, rfl, rfl, h2, r2⟩ := trodAll_cons r1
  obtain ⟨v3, vs3, d3, ds3, p3, q3, rfl, rfl, rfl, h3, r3⟩ := trodAll_cons r2
  obtain ⟨v4, vs4, d4, ds4, p4, q4, rfl, rfl, rfl, h4, r4⟩ := trodAll_cons r3
  obtain ⟨rfl, rfl, rfl⟩ := trodAll_nil r4
  obtain rfl : args = #[v0, v1, v2, v3, v4] := by cases args; simp_all
  obtain ⟨pp, b, o, c, rs, rfl, hrd, hl1, hl2, hl3⟩ := open_frms h0 (okWide_sl Tryd.underlying37 (hval 0 _ v0 rfl rfl))
  obtain ⟨ks, hks, rfl⟩ := open_key Tryd.underlying23 Tryd.underlying5 (by kernel_rfl) (by kernel_rfl) (hval 1 _ v1 rfl rfl) h1
  obtain ⟨first, rfl, rfl, rfl⟩ := open_bool Tryd.underlying4 (hval 2 _ v2 rfl rfl) h2
  obtain ⟨number, rfl, rfl, rfl, hwn⟩ := open_int Tryd.underlying24 (hval 3 _ v3 rfl rfl) h3
  obtain ⟨k, rfl, rfl, rfl, hwk⟩ := open_int Tryd.underlying3 (hval 4 _ v4 rfl rfl) h4
  have hn : 0 ≤ number ∧ number ≤ 18446744073709551615 := by simpa [Lit.wf, IntKind.min, IntKind.max, IntKind.bits, IntKind.signed] using hwn
  have hkr : -9223372036854775808 ≤ k ∧ k ≤ 9223372036854775807 := by simpa [Lit.wf, IntKind.min, IntKind.max, IntKind.bits, IntKind.signed] using hwk
  obtain ⟨nn, rfl⟩ : ∃ nn : UInt64, number = (nn.toNat : Int) := ⟨UInt64.ofNat number.toNat, by rw [UInt64.toNat_ofNat']; omega⟩
  obtain ⟨rfl, rfl⟩ := trodVars_none hV
  have hd0 : Rows.uptoBulk d0 ≤ 1048576 := Nat.le_trans (bulk_mem (by simp)) hk
  have hml : (rs.map (·.f)).length = rs.length := List.length_map ..
  have hw := returned_spec (handle_of_laid hL) (rs.map (·.f)) pp c b o rs ks hks first nn k ⟨hkr.1, by omega⟩ HP.emp (hrd HP.emp) (fun r hr => ⟨(hl2 r hr).1, by have := (hl2 r hr).2; omega, by have := (hl2 r hr).2; omega⟩) (by omega) (by omega)
  rw [hml] at hw
  refine (Fn.callsB hw).mono fun e W' ⟨v, H', he, hv, hb⟩ => ?_
  subst he; subst hv
  refine ⟨_, rfl, post_below laidOut ?_ rfl hW' hb rfl rfl (fun _ _ _ => trodAll_cons_mk (shut_bool Tryd.underlying4 _) trodAll_mk0) (ok_one (by kernel_rfl) rfl (okWide_bool_mk Tryd.underlying4 _))⟩
  rw [Tryd.params5]
  intro t ht
  have hall : ([37, 23, 4, 24, 3].all fun t => Tryd.prog.readableRec t && decide (t < Tryd.prog.types.size)) = true := by kernel_rfl
  have := List.all_eq_true.1 hall t (by simpa using ht)
  simpa using this

noncomputable def wArgs : Array Value := #[.slice none 0 0, .agg (flat (List.replicate 16 (0 : UInt8))).toArray, .bool false, .int .u64 0, .int .i64 0]
theorem reads (os : Os) {H : Type} (enc : TypeId × Value → H) : DataW.whole enc Tryd.prog ((laidWorld os).forCall (fun _ _ => 0) ⟨#[], wArgs, []⟩).memory Tryd.f5.params.toList Rows.returnedSpec.vars false wArgs.toList 8 = some ([.nil, .agg (List.replicate 16 (.lit (.int .u8 0))), .lit (.bool false), .lit (.int .u64 0), .lit (.int .i64 0)], [], []) := by kernel_rfl

set_option maxRecDepth 100000 in
theorem lifted (os : Os) (started : os.Started) (H : Type) (enc : TypeId × Value → H) (F : Stop.Interp) :
    ReturnsInHanded {} Tryd.checked os 5 .any ((Rows.OpenSpec.upto Rows.returnedSpec).preRow enc Tryd.prog Tryd.f5 Rows.returnedUptoRow.domain false Rows.returnedUptoRow.laid) (((Rows.OpenSpec.upto Rows.returnedSpec).at F).post enc Tryd.prog Tryd.f5 false true false false) := by
  have hx := reads os enc
  refine returnsInHanded_of_row (C := Tryd.checked) (s := Rows.OpenSpec.upto Rows.returnedSpec) own started (by kernel_rfl) Tryd.func5
    (witness_row_at (enc := enc) (C := Tryd.checked) false (laidWorld os) wArgs rfl (by kernel_rfl) (by kernel_rfl) (by kernel_rfl)
      (OpenSpec.preRow_of_cond 8 hx (by kernel_rfl) (fun k hk => by cases hk; kernel_rfl) (by kernel_rfl) (laidWorld_met os wArgs))) ?_
  intro W base args ds gs before hval hW _ hcond _ hL _ _
  exact contract H enc W base args ds gs before hval hW (of_decide_eq_true (hcond _ rfl)) hL

theorem said : Rows.ReturnedUptoSaid :=
  OpenClaim.holds_of_cond 5 Tryd.f5 rfl rfl rfl rfl rfl rfl rfl ⟨rfl, rfl, rfl, rfl, rfl⟩ rfl rfl rfl rfl rfl (by kernel_rfl) Tryd.func5 (by kernel_rfl)
    (of_decide_eq_true (by kernel_rfl)) (by unfold Func.isWrapper; first | (rw [if_pos (by decide +kernel)]; kernel_rfl) | (rw [if_neg (by decide +kernel)]; exact ⟨rfl, rfl⟩))
    (fun os started H enc _ F => by rw [OpenClaim.pre_eq_preRow]; exact lifted os started H enc F)

theorem plain (f : FuncId) (fn : Func) (hf : Tryd.pinned.checked.prog.funcNamed "sealstream/sealstreamkeep.Returned" = some f) (hfn : Tryd.pinned.checked.prog.funcs[f]? = some fn) :
    true = Tryd.pinned.checked.prog.looks [] ∧ ∀ (j : Nat) t, fn.params[j]? = some t → Tryd.pinned.checked.prog.wantsStandIn t = false := by
  obtain rfl : f = 5 := Option.some.inj ((show Tryd.prog.funcNamed "sealstream/sealstreamkeep.Returned" = some 5 by kernel_rfl).symm.trans hf) |>.symm
  obtain rfl : fn = Tryd.f5 := (Option.some.inj (Tryd.func5.symm.trans hfn)).symm
  refine ⟨by kernel_rfl, fun j t ht => ?_⟩
  rw [Tryd.params5] at ht
  have hm : t ∈ [37, 23, 4, 24, 3] := by simpa using Array.mem_of_getElem? ht
  have hall : ([37, 23, 4, 24, 3].all fun u => !Tryd.prog.wantsStandIn u) = true := by kernel_rfl
  exact (show Tryd.prog.wantsStandIn t = false by simpa using List.all_eq_true.1 hall t hm)

/-- the card -/
theorem card : Rows.ReturnedUptoCardSaid :=
  Claim7.holds_tied_plain_at .later [] _ _ _ _ said (fun _ h => by cases h) (by kernel_rfl) (fun _ h => by cases h) returnedUpto_row_tie rfl ⟨rfl, rfl⟩ (by kernel_rfl) rfl plain (by kernel_rfl)
#print axioms card
end Go.Proofs.YtgfdlpcdjklcoaaDoor.lawReturned
