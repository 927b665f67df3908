/- The law Served of package sealstreamlaw returns true for every input of bulk at most 1048576: commands by a channel: the answers are those of the calls; no condition. -/
import Derived.Test.YtgfdlpcdjklcoaaGreatDoorP17
namespace Go.Proofs.YtgfdlpcdjklcoaaGreatDoor.lawServed
open Go Go.ChangeShapes Go.WideShapes Go.ChangeAt Go.RowKit Go.Conc
set_option linter.unusedVariables false
noncomputable def wArgs : Array Value := #[.agg #[.int .i64 0, .int .i64 0], .agg (AE (List.replicate 16 (0 : UInt8))).toArray, .bool false, .slice none 0 0, .int .i64 0]
theorem reads (os : Os) {H : Type} (enc : TypeId × Value → H) : DataW.whole enc Tryz.prog ((U6 os).forCall (fun _ _ => 0) ⟨#[], wArgs, []⟩).memory Tryz.f8.params.toList Rows.servedSpec.vars false wArgs.toList 8 = some ([.agg [.lit (.int .i64 0), .lit (.int .i64 0)], .agg (List.replicate 16 (.lit (.int .u8 0))), .lit (.bool false), .nil, .lit (.int .i64 0)], [], []) := by kernel_rfl
set_option maxRecDepth 100000 in
theorem lifted (os : Os) (started : os.Started) (H : Type) (enc : TypeId × Value → H) (F : Stop.Interp) :
    ReturnsInLeavingWide {} Tryz.checked os 8 .any ((Rows.OpenSpec.upto Rows.servedSpec).preRow enc Tryz.prog Tryz.f8 Rows.servedUptoRow.domain false Rows.servedUptoRow.laid) (((Rows.OpenSpec.upto Rows.servedSpec).at F).post enc Tryz.prog Tryz.f8 false true false false) := by
  have hx := reads os enc
  refine vt (C := Tryz.checked) (s := Rows.OpenSpec.upto Rows.servedSpec) own started Tryz.func8
    (witness_row_at (enc := enc) (C := Tryz.checked) false (U6 os) wArgs rfl (by kernel_rfl) (by kernel_rfl) (by kernel_rfl)
      (OpenSpec.preRow_of_cond 8 hx (by kernel_rfl) (fun k hk => by cases hk; kernel_rfl) (by kernel_rfl) (jp os wArgs))) ?_
  intro W base args ds gs before hval hW hcond hL
  exact Afl H enc W base args ds gs before hval hW (of_decide_eq_true (hcond _ rfl)) hL
theorem c_ip : Tryz.pinned.checked.prog.inPlace 8 = Rows.servedUptoRow.inPlace := by kernel_rfl
theorem c_uf : Tryz.pinned.checked.prog.unfollowed 8 = Rows.servedUptoRow.unfollowed := by kernel_rfl
theorem c_rc : Tryz.pinned.checked.prog.recurses 8 = Rows.servedUptoRow.recurses := by kernel_rfl
theorem c_vn : Tryz.pinned.checked.prog.varsNamed 8 = Rows.servedUptoRow.named := by kernel_rfl
theorem c_gb : true = Rows.servedUptoRow.goesBy Tryz.pinned.checked.prog := by kernel_rfl
theorem closed : joinedFacts Tryz.pinned.checked.prog 8 Tryz.f8 (Rows.OpenSpec.upto Rows.servedSpec).bare Rows.servedUptoRow = true := by
  unfold joinedFacts
  rw [ic, q9, Afr, lz, Aek, Afm, c_ip, c_uf, c_rc, c_vn]
  kernel_rfl
theorem said : Rows.ServedUptoSaid :=
  u7 8 Tryz.f8 rfl rfl rfl rfl rfl rfl rfl ⟨rfl, rfl, rfl, rfl, rfl⟩ rfl rfl rfl rfl rfl (by kernel_rfl) Tryz.func8 closed
    (of_decide_eq_true (by kernel_rfl)) (by unfold Func.isWrapper; first | (rw [if_pos (by decide +kernel)]; kernel_rfl) | (rw [if_neg (by decide +kernel)]; exact ⟨rfl, rfl⟩))
    (fun os started H enc _ F => by rw [OpenClaim.pre_eq_preRow]; exact lifted os started H enc F)
theorem plain (f : FuncId) (fn : Func) (hf : Tryz.pinned.checked.prog.funcNamed "sealstream/sealstreamlaw.Served" = some f) (hfn : Tryz.pinned.checked.prog.funcs[f]? = some fn) :
    true = Tryz.pinned.checked.prog.looks [] ∧ ∀ (j : Nat) t, fn.params[j]? = some t → Tryz.pinned.checked.prog.wantsStandIn t = false := by
  obtain rfl : f = 8 := Option.some.inj ((show Tryz.prog.funcNamed "sealstream/sealstreamlaw.Served" = some 8 by kernel_rfl).symm.trans hf) |>.symm
  obtain rfl : fn = Tryz.f8 := (Option.some.inj (Tryz.func8.symm.trans hfn)).symm
  refine ⟨by kernel_rfl, fun j t ht => ?_⟩
  rw [Tryz.params8] at ht
  have hm : t ∈ [35, 24, 4, 36, 3] := by simpa using Array.mem_of_getElem? ht
  have hall : ([35, 24, 4, 36, 3].all fun u => !Tryz.prog.wantsStandIn u) = true := by kernel_rfl
  exact (show Tryz.prog.wantsStandIn t = false by simpa using List.all_eq_true.1 hall t hm)
theorem card : Rows.ServedUptoCardSaid :=
  Aas .later _ _ _ _ said (by kernel_rfl) servedUpto_row_tie rfl ⟨rfl, rfl⟩ (by kernel_rfl) rfl plain c_gb
#print axioms card
end Go.Proofs.YtgfdlpcdjklcoaaGreatDoor.lawServed