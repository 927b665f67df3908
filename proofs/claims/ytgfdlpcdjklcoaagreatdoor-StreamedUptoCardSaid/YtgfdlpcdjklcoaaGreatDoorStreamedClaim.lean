/- The law Streamed of package sealstreamlaw returns true for every input of bulk at most 1048576: sides with streams that are not given up answer as the document says; no condition. -/
import Derived.Test.YtgfdlpcdjklcoaaGreatDoorP16
namespace Go.Proofs.YtgfdlpcdjklcoaaGreatDoor.lawStreamed
open Go Go.ChangeShapes Go.WideShapes Go.ChangeAt Go.RowKit
set_option linter.unusedVariables false
set_option maxRecDepth 100000 in
theorem contract (H : Type) (Am : TypeId × Value → H) (W : World) (base : Nat) (args : Array Value) (ds gs : List (DataW H)) (before : List MemPlace)
    (hval : ∀ (j : Nat) t v, Tryz.f3.params[j]? = some t → args[j]? = some v → Value.okWide Tryz.prog W .any base t v)
    (hW : DataW.Whole Am Tryz.prog Tryz.f3.params.toList Rows.streamedSpec.vars false W args.toList ds gs before) (hk : Rows.uptoBulkAll (ds ++ gs) ≤ 1048576) (hL : laidMetH Tryz.prog Rows.streamedRow.laid W) :
    Calls Tryz.prog 3 args W fun e W' => ∃ v, e = .returned v ∧ Rows.streamedSpec.post Am Tryz.prog Tryz.f3 false true false false W args v W' := by
  have hW' := hW
  obtain ⟨p, q, hA0, hV, rfl, hfz, hnd⟩ := hW
  have hA : DataW.TrodAll Am Tryz.prog W 0 (fun _ => true) true Tryz.f3.params.toList args.toList ds p := hA0
  rw [Tryz.params3] at hA hval
  obtain ⟨v0, vs0, d0, ds0, p0, q0, hargs, rfl, rfl, h0, r0⟩ := trodAll_cons hA
  obtain ⟨v1, vs1, d1, ds1, p1, q1, rfl, rfl, rfl, h1, r1⟩ := trodAll_cons r0
  obtain ⟨rfl, rfl, rfl⟩ := trodAll_nil r1
  obtain rfl : args = #[v0, v1] := by cases args; simp_all
  have hd0 : Rows.uptoBulk d0 ≤ 1048576 := Nat.le_trans (Wj (by simp)) hk
  obtain ⟨pp, b, o, c, l, rfl, hsl, hrd, hl, hok⟩ := yS h0 (P! Tryz.underlying22 (hval 0 _ v0 rfl rfl)) hd0
  obtain ⟨ks, hks, rfl⟩ := jl Tryz.underlying24 Tryz.underlying5 (by kernel_rfl) (by kernel_rfl) (hval 1 _ v1 rfl rfl) h1
  obtain ⟨rfl, rfl⟩ := trodVars_none hV
  have hw := pg (kt hL) pp b o c l ks hks HP.BQ hsl (hrd HP.BQ) hok hl
  refine (Fn.yH hw).mono fun e W' ⟨v, H', he, hv, hb⟩ => ?_
  subst he; obtain ⟨rfl, rfl⟩ := hv
  refine ⟨_, rfl, cr tJ ?_ rfl hW' hb rfl rfl (fun _ _ _ => trodAll_cons_mk (shut_bool Tryz.underlying4 _) trodAll_mk0) (ok_one (by kernel_rfl) rfl (okWide_bool_mk Tryz.underlying4 _))⟩
  rw [Tryz.params3]
  intro t ht
  have hall : ([22, 24].all fun t => Tryz.prog.readableRec t && decide (t < Tryz.prog.types.size)) = true := by kernel_rfl
  have := List.all_eq_true.1 hall t (by simpa using ht)
  simpa using this
noncomputable def wArgs : Array Value := #[.slice none 0 0, .agg (AE (List.replicate 16 (0 : UInt8))).toArray]
theorem reads (os : Os) {H : Type} (Am : TypeId × Value → H) : DataW.whole Am Tryz.prog ((Ue os).forCall (fun _ _ => 0) ⟨#[], wArgs, []⟩).memory Tryz.f3.params.toList Rows.streamedSpec.vars false wArgs.toList 8 = some ([.nil, .agg (List.replicate 16 (.lit (.int .u8 0)))], [], []) := by kernel_rfl
set_option maxRecDepth 100000 in
theorem lifted (os : Os) (started : os.Started) (H : Type) (Am : TypeId × Value → H) (F : Stop.Interp) :
    ReturnsInHanded {} Tryz.checked os 3 .any ((Rows.OpenSpec.upto Rows.streamedSpec).preRow Am Tryz.prog Tryz.f3 Rows.streamedUptoRow.domain false Rows.streamedUptoRow.laid) (((Rows.OpenSpec.upto Rows.streamedSpec).at F).post Am Tryz.prog Tryz.f3 false true false false) := by
  have hx := reads os Am
  refine returnsInHanded_of_row (C := Tryz.checked) (s := Rows.OpenSpec.upto Rows.streamedSpec) own started (by kernel_rfl) Tryz.func3
    (witness_row_at (enc := Am) (C := Tryz.checked) false (Ue os) wArgs rfl (by kernel_rfl) (by kernel_rfl) (by kernel_rfl)
      (OpenSpec.preRow_of_cond 8 hx (by kernel_rfl) (fun k hk => by cases hk; kernel_rfl) (by kernel_rfl) (j2 os wArgs))) ?_
  intro W base args ds gs before hval hW _ hcond _ hL _ _
  exact contract H Am W base args ds gs before hval hW (of_decide_eq_true (hcond _ rfl)) hL
theorem c_ip : Tryz.pinned.checked.prog.inPlace 3 = Rows.streamedUptoRow.inPlace := by kernel_rfl
theorem c_uf : Tryz.pinned.checked.prog.unfollowed 3 = Rows.streamedUptoRow.unfollowed := by kernel_rfl
theorem c_rc : Tryz.pinned.checked.prog.recurses 3 = Rows.streamedUptoRow.recurses := by kernel_rfl
theorem c_vn : Tryz.pinned.checked.prog.varsNamed 3 = Rows.streamedUptoRow.named := by kernel_rfl
theorem c_gb : true = Rows.streamedUptoRow.goesBy Tryz.pinned.checked.prog := by kernel_rfl
theorem closed : joinedFacts Tryz.pinned.checked.prog 3 Tryz.f3 (Rows.OpenSpec.upto Rows.streamedSpec).bare Rows.streamedUptoRow = true := by
  unfold joinedFacts
  rw [d6, tP, ug, o8, rj, ud, c_ip, c_uf, c_rc, c_vn]
  kernel_rfl
theorem said : Rows.StreamedUptoSaid :=
  lz 3 Tryz.f3 rfl rfl rfl rfl rfl rfl rfl ⟨rfl, rfl, rfl, rfl, rfl⟩ rfl rfl rfl rfl rfl (by kernel_rfl) Tryz.func3 closed
    (of_decide_eq_true (by kernel_rfl)) (by unfold Func.isWrapper; first | (rw [if_pos (by decide +kernel)]; kernel_rfl) | (rw [if_neg (by decide +kernel)]; exact ⟨rfl, rfl⟩))
    (fun os started H Am _ F => by rw [OpenClaim.pre_eq_preRow]; exact lifted os started H Am F)
theorem plain (f : FuncId) (fn : Func) (hf : Tryz.pinned.checked.prog.funcNamed "sealstream/sealstreamlaw.Streamed" = some f) (hfn : Tryz.pinned.checked.prog.funcs[f]? = some fn) :
    true = Tryz.pinned.checked.prog.looks [] ∧ ∀ (j : Nat) t, fn.params[j]? = some t → Tryz.pinned.checked.prog.wantsStandIn t = false := by
  obtain rfl : f = 3 := Option.some.inj ((show Tryz.prog.funcNamed "sealstream/sealstreamlaw.Streamed" = some 3 by kernel_rfl).symm.trans hf) |>.symm
  obtain rfl : fn = Tryz.f3 := (Option.some.inj (Tryz.func3.symm.trans hfn)).symm
  refine ⟨by kernel_rfl, fun j t ht => ?_⟩
  rw [Tryz.params3] at ht
  have hm : t ∈ [22, 24] := by simpa using Array.mem_of_getElem? ht
  have hall : ([22, 24].all fun u => !Tryz.prog.wantsStandIn u) = true := by kernel_rfl
  exact (show Tryz.prog.wantsStandIn t = false by simpa using List.all_eq_true.1 hall t hm)
theorem card : Rows.StreamedUptoCardSaid :=
  ip .later _ _ _ _ said (by kernel_rfl) streamedUpto_row_tie rfl ⟨rfl, rfl⟩ (by kernel_rfl) rfl plain c_gb
#print axioms card
end Go.Proofs.YtgfdlpcdjklcoaaGreatDoor.lawStreamed