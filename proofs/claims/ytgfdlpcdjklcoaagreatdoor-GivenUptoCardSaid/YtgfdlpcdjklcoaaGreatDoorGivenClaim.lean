/- The law Given of package sealstreamkeep returns true for every input of bulk at most 1048576: over a faultless network everything written is read in the end, and then the wire is silent; no condition. -/
import Derived.Test.YtgfdlpcdjklcoaaGreatDoorG14
namespace Go.Proofs.YtgfdlpcdjklcoaaGreatDoor.lawGiven
open Go Go.ChangeShapes Go.WideShapes Go.ChangeAt Go.RowKit
set_option linter.unusedVariables false
set_option maxRecDepth 100000 in
theorem contract (H : Type) (At : TypeId × Value → H) (W : World) (base : Nat) (args : Array Value) (ds gs : List (DataW H)) (before : List MemPlace)
    (hval : ∀ (j : Nat) t v, Tryz.f7.params[j]? = some t → args[j]? = some v → Value.okWide Tryz.prog W .any base t v)
    (hW : DataW.Whole At Tryz.prog Tryz.f7.params.toList Rows.givenSpec.vars false W args.toList ds gs before) (hk : Rows.uptoBulkAll (ds ++ gs) ≤ 1048576) (hL : laidMetH Tryz.prog Rows.givenRow.laid W) :
    Calls Tryz.prog 7 args W fun e W' => ∃ v, e = .returned v ∧ Rows.givenSpec.post At Tryz.prog Tryz.f7 false true false false W args v W' := by
  have hW' := hW
  obtain ⟨p, q, hA0, hV, rfl, hfz, hnd⟩ := hW
  have hA : DataW.TrodAll At Tryz.prog W 0 (fun _ => true) true Tryz.f7.params.toList args.toList ds p := hA0
  rw [Tryz.params7] at hA hval
  obtain ⟨v0, vs0, d0, ds0, p0, q0, hargs, rfl, rfl, h0, r0⟩ := trodAll_cons hA
  obtain ⟨v1, vs1, d1, ds1, p1, q1, rfl, rfl, rfl, h1, r1⟩ := trodAll_cons r0
  obtain ⟨v2, vs2, d2, ds2, p2, q2, rfl, rfl, rfl, h2, r2⟩ := trodAll_cons r1
  obtain ⟨rfl, rfl, rfl⟩ := trodAll_nil r2
  obtain rfl : args = #[v0, v1, v2] := by cases args; simp_all
  have hd0 : Rows.uptoBulk d0 ≤ 1048576 := Nat.le_trans (bW (by simp)) hk
  obtain ⟨pp, b, o, c, l, rfl, hsl, hrd, hl, hok⟩ := pC h0 (xD Tryz.underlying27 (hval 0 _ v0 rfl rfl)) hd0
  obtain ⟨AJ, rfl, rfl, rfl, hwm⟩ := open_int Tryz.underlying3 (hval 1 _ v1 rfl rfl) h1
  obtain ⟨Dy, rfl, rfl, rfl, hww⟩ := open_int Tryz.underlying3 (hval 2 _ v2 rfl rfl) h2
  obtain ⟨rfl, rfl⟩ := trodVars_none hV
  have hw := Q! (O_ hL) l AJ Dy (PG hwm) (PG hww) pp b o c HP.BN hsl (hrd HP.BN) (by omega) hok
  refine (Fn.qC hw).mono fun e W' ⟨v, H', he, hv, hb⟩ => ?_
  subst he; obtain ⟨rfl, rfl⟩ := hv
  refine ⟨_, rfl, zJ lF ?_ rfl hW' hb rfl rfl (fun _ _ _ => trodAll_cons_mk (shut_bool Tryz.underlying4 _) trodAll_mk0) (ok_one (by kernel_rfl) rfl (okWide_bool_mk Tryz.underlying4 _))⟩
  rw [Tryz.params7]
  intro t ht
  have hall : ([27, 3, 3].all fun t => Tryz.prog.readableRec t && decide (t < Tryz.prog.types.size)) = true := by kernel_rfl
  have := List.all_eq_true.1 hall t (by simpa using ht)
  simpa using this
noncomputable def wArgs : Array Value := #[.slice none 0 0, .int .i64 0, .int .i64 0]
theorem reads (os : Os) {H : Type} (At : TypeId × Value → H) : DataW.whole At Tryz.prog ((So os).forCall (fun _ _ => 0) ⟨#[], wArgs, []⟩).memory Tryz.f7.params.toList Rows.givenSpec.vars false wArgs.toList 8 = some ([.nil, .lit (.int .i64 0), .lit (.int .i64 0)], [], []) := by kernel_rfl
set_option maxRecDepth 100000 in
theorem lifted (os : Os) (started : os.Started) (H : Type) (At : TypeId × Value → H) (F : Stop.Interp) :
    ReturnsInHanded {} Tryz.checked os 7 .any ((Rows.OpenSpec.upto Rows.givenSpec).preRow At Tryz.prog Tryz.f7 Rows.givenUptoRow.domain false Rows.givenUptoRow.laid) (((Rows.OpenSpec.upto Rows.givenSpec).at F).post At Tryz.prog Tryz.f7 false true false false) := by
  have hx := reads os At
  refine returnsInHanded_of_row (C := Tryz.checked) (s := Rows.OpenSpec.upto Rows.givenSpec) own started (by kernel_rfl) Tryz.func7
    (witness_row_at (enc := At) (C := Tryz.checked) false (So os) wArgs rfl (by kernel_rfl) (by kernel_rfl) (by kernel_rfl)
      (OpenSpec.preRow_of_cond 8 hx (by kernel_rfl) (fun k hk => by cases hk; kernel_rfl) (by kernel_rfl) (sU os wArgs))) ?_
  intro W base args ds gs before hval hW _ hcond _ hL _ _
  exact contract H At W base args ds gs before hval hW (of_decide_eq_true (hcond _ rfl)) hL
theorem c_ip : Tryz.pinned.checked.prog.inPlace 7 = Rows.givenUptoRow.inPlace := by kernel_rfl
theorem c_uf : Tryz.pinned.checked.prog.unfollowed 7 = Rows.givenUptoRow.unfollowed := by kernel_rfl
theorem c_rc : Tryz.pinned.checked.prog.recurses 7 = Rows.givenUptoRow.recurses := by kernel_rfl
theorem c_vn : Tryz.pinned.checked.prog.varsNamed 7 = Rows.givenUptoRow.named := by kernel_rfl
theorem c_gb : true = Rows.givenUptoRow.goesBy Tryz.pinned.checked.prog := by kernel_rfl
theorem closed : joinedFacts Tryz.pinned.checked.prog 7 Tryz.f7 (Rows.OpenSpec.upto Rows.givenSpec).bare Rows.givenUptoRow = true := by
  unfold joinedFacts
  rw [rV, lM, fw, tV, eb, ft, c_ip, c_uf, c_rc, c_vn]
  kernel_rfl
theorem said : Rows.GivenUptoSaid :=
  U! 7 Tryz.f7 rfl rfl rfl rfl rfl rfl rfl ⟨rfl, rfl, rfl, rfl, rfl⟩ rfl rfl rfl rfl rfl (by kernel_rfl) Tryz.func7 closed
    (of_decide_eq_true (by kernel_rfl)) (by unfold Func.isWrapper; first | (rw [if_pos (by decide +kernel)]; kernel_rfl) | (rw [if_neg (by decide +kernel)]; exact ⟨rfl, rfl⟩))
    (fun os started H At _ F => by rw [OpenClaim.pre_eq_preRow]; exact lifted os started H At F)
theorem plain (f : FuncId) (fn : Func) (hf : Tryz.pinned.checked.prog.funcNamed "sealstream/sealstreamkeep.Given" = some f) (hfn : Tryz.pinned.checked.prog.funcs[f]? = some fn) :
    true = Tryz.pinned.checked.prog.looks [] ∧ ∀ (j : Nat) t, fn.params[j]? = some t → Tryz.pinned.checked.prog.wantsStandIn t = false := by
  obtain rfl : f = 7 := Option.some.inj ((show Tryz.prog.funcNamed "sealstream/sealstreamkeep.Given" = some 7 by kernel_rfl).symm.trans hf) |>.symm
  obtain rfl : fn = Tryz.f7 := (Option.some.inj (Tryz.func7.symm.trans hfn)).symm
  refine ⟨by kernel_rfl, fun j t ht => ?_⟩
  rw [Tryz.params7] at ht
  have hm : t ∈ [27, 3, 3] := by simpa using Array.mem_of_getElem? ht
  have hall : ([27, 3, 3].all fun u => !Tryz.prog.wantsStandIn u) = true := by kernel_rfl
  exact (show Tryz.prog.wantsStandIn t = false by simpa using List.all_eq_true.1 hall t hm)
theorem card : Rows.GivenUptoCardSaid :=
  B! .later _ _ _ _ said (by kernel_rfl) givenUpto_row_tie rfl ⟨rfl, rfl⟩ (by kernel_rfl) rfl plain c_gb
#print axioms card
end Go.Proofs.YtgfdlpcdjklcoaaGreatDoor.lawGiven