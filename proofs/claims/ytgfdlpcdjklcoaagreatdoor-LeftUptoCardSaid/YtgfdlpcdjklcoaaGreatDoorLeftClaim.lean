/- The law Left of package sealstreamkeep returns true for every input of bulk at most 1048576: when a side leaves, the other is told, if the packet comes; nothing goes on, and nothing more is sent; no condition. -/
import Derived.Test.YtgfdlpcdjklcoaaGreatDoorL13
namespace Go.Proofs.YtgfdlpcdjklcoaaGreatDoor.lawLeft
open Go Go.ChangeShapes Go.WideShapes Go.ChangeAt Go.RowKit
set_option linter.unusedVariables false
set_option maxRecDepth 100000 in
theorem contract (H : Type) (An : TypeId × Value → H) (W : World) (base : Nat) (args : Array Value) (ds gs : List (DataW H)) (before : List MemPlace)
    (hval : ∀ (j : Nat) t v, Tryz.f9.params[j]? = some t → args[j]? = some v → Value.okWide Tryz.prog W .any base t v)
    (hW : DataW.Whole An Tryz.prog Tryz.f9.params.toList Rows.leftSpec.vars false W args.toList ds gs before) (hk : Rows.uptoBulkAll (ds ++ gs) ≤ 1048576) (hL : laidMetH Tryz.prog Rows.leftRow.laid W) :
    Calls Tryz.prog 9 args W fun e W' => ∃ v, e = .returned v ∧ Rows.leftSpec.post An Tryz.prog Tryz.f9 false true false false W args v W' := by
  have hW' := hW
  obtain ⟨p, q, hA0, hV, rfl, hfz, hnd⟩ := hW
  have hA : DataW.TrodAll An Tryz.prog W 0 (fun _ => true) true Tryz.f9.params.toList args.toList ds p := hA0
  rw [Tryz.params9] at hA hval
  obtain ⟨v0, vs0, d0, ds0, p0, q0, hargs, rfl, rfl, h0, r0⟩ := trodAll_cons hA
  obtain ⟨v1, vs1, d1, ds1, p1, q1, rfl, rfl, rfl, h1, r1⟩ := trodAll_cons r0
  obtain ⟨v2, vs2, d2, ds2, p2, q2, rfl, rfl, rfl, h2, r2⟩ := trodAll_cons r1
  obtain ⟨v3, vs3, d3, ds3, p3, q3, rfl, rfl, rfl, h3, r3⟩ := trodAll_cons r2
  obtain ⟨v4, vs4, d4, ds4, p4, q4, rfl, rfl, rfl, h4, r4⟩ := trodAll_cons r3
  obtain ⟨rfl, rfl, rfl⟩ := trodAll_nil r4
  obtain rfl : args = #[v0, v1, v2, v3, v4] := by cases args; simp_all
  have hd0 : Rows.uptoBulk d0 ≤ 1048576 := Nat.le_trans (Ye (by simp)) hk
  obtain ⟨pp, b, o, c, l, rfl, hsl, hrd, hl, hok⟩ := iM h0 (qC Tryz.underlying27 (hval 0 _ v0 rfl rfl)) hd0
  obtain ⟨AI, rfl, rfl, rfl, hwm⟩ := open_int Tryz.underlying3 (hval 1 _ v1 rfl rfl) h1
  obtain ⟨Gw, rfl, rfl, rfl, hww⟩ := open_int Tryz.underlying3 (hval 2 _ v2 rfl rfl) h2
  obtain ⟨code, rfl, rfl, rfl, hwc⟩ := open_int Tryz.underlying3 (hval 3 _ v3 rfl rfl) h3
  obtain ⟨cm, rfl, rfl, rfl⟩ := open_bool Tryz.underlying4 (hval 4 _ v4 rfl rfl) h4
  obtain ⟨rfl, rfl⟩ := trodVars_none hV
  have hw := fB (wH hL) l AI Gw code cm (Mi hwm) (Mi hww) (Mi hwc) pp b o c HP.BD hsl (hrd HP.BD) (by omega) hok
  refine (Fn.jO hw).mono fun e W' ⟨v, H', he, hv, hb⟩ => ?_
  subst he; obtain ⟨rfl, rfl⟩ := hv
  refine ⟨_, rfl, sG eH ?_ rfl hW' hb rfl rfl (fun _ _ _ => trodAll_cons_mk (shut_bool Tryz.underlying4 _) trodAll_mk0) (ok_one (by kernel_rfl) rfl (okWide_bool_mk Tryz.underlying4 _))⟩
  rw [Tryz.params9]
  intro t ht
  have hall : ([27, 3, 3, 3, 4].all fun t => Tryz.prog.readableRec t && decide (t < Tryz.prog.types.size)) = true := by kernel_rfl
  have := List.all_eq_true.1 hall t (by simpa using ht)
  simpa using this
noncomputable def wArgs : Array Value := #[.slice none 0 0, .int .i64 0, .int .i64 0, .int .i64 0, .bool false]
theorem reads (os : Os) {H : Type} (An : TypeId × Value → H) : DataW.whole An Tryz.prog ((RB os).forCall (fun _ _ => 0) ⟨#[], wArgs, []⟩).memory Tryz.f9.params.toList Rows.leftSpec.vars false wArgs.toList 8 = some ([.nil, .lit (.int .i64 0), .lit (.int .i64 0), .lit (.int .i64 0), .lit (.bool false)], [], []) := by kernel_rfl
set_option maxRecDepth 100000 in
theorem lifted (os : Os) (started : os.Started) (H : Type) (An : TypeId × Value → H) (F : Stop.Interp) :
    ReturnsInHanded {} Tryz.checked os 9 .any ((Rows.OpenSpec.upto Rows.leftSpec).preRow An Tryz.prog Tryz.f9 Rows.leftUptoRow.domain false Rows.leftUptoRow.laid) (((Rows.OpenSpec.upto Rows.leftSpec).at F).post An Tryz.prog Tryz.f9 false true false false) := by
  have hx := reads os An
  refine returnsInHanded_of_row (C := Tryz.checked) (s := Rows.OpenSpec.upto Rows.leftSpec) own started (by kernel_rfl) Tryz.func9
    (witness_row_at (enc := An) (C := Tryz.checked) false (RB os) wArgs rfl (by kernel_rfl) (by kernel_rfl) (by kernel_rfl)
      (OpenSpec.preRow_of_cond 8 hx (by kernel_rfl) (fun k hk => by cases hk; kernel_rfl) (by kernel_rfl) (lY os wArgs))) ?_
  intro W base args ds gs before hval hW _ hcond _ hL _ _
  exact contract H An W base args ds gs before hval hW (of_decide_eq_true (hcond _ rfl)) hL
theorem c_ip : Tryz.pinned.checked.prog.inPlace 9 = Rows.leftUptoRow.inPlace := by kernel_rfl
theorem c_uf : Tryz.pinned.checked.prog.unfollowed 9 = Rows.leftUptoRow.unfollowed := by kernel_rfl
theorem c_rc : Tryz.pinned.checked.prog.recurses 9 = Rows.leftUptoRow.recurses := by kernel_rfl
theorem c_vn : Tryz.pinned.checked.prog.varsNamed 9 = Rows.leftUptoRow.named := by kernel_rfl
theorem c_gb : true = Rows.leftUptoRow.goesBy Tryz.pinned.checked.prog := by kernel_rfl
theorem closed : joinedFacts Tryz.pinned.checked.prog 9 Tryz.f9 (Rows.OpenSpec.upto Rows.leftSpec).bare Rows.leftUptoRow = true := by
  unfold joinedFacts
  rw [lA, eN, m8, nF, zV, m5, c_ip, c_uf, c_rc, c_vn]
  kernel_rfl
theorem said : Rows.LeftUptoSaid :=
  xB 9 Tryz.f9 rfl rfl rfl rfl rfl rfl rfl ⟨rfl, rfl, rfl, rfl, rfl⟩ rfl rfl rfl rfl rfl (by kernel_rfl) Tryz.func9 closed
    (of_decide_eq_true (by kernel_rfl)) (by unfold Func.isWrapper; first | (rw [if_pos (by decide +kernel)]; kernel_rfl) | (rw [if_neg (by decide +kernel)]; exact ⟨rfl, rfl⟩))
    (fun os started H An _ F => by rw [OpenClaim.pre_eq_preRow]; exact lifted os started H An F)
theorem plain (f : FuncId) (fn : Func) (hf : Tryz.pinned.checked.prog.funcNamed "sealstream/sealstreamkeep.Left" = some f) (hfn : Tryz.pinned.checked.prog.funcs[f]? = some fn) :
    true = Tryz.pinned.checked.prog.looks [] ∧ ∀ (j : Nat) t, fn.params[j]? = some t → Tryz.pinned.checked.prog.wantsStandIn t = false := by
  obtain rfl : f = 9 := Option.some.inj ((show Tryz.prog.funcNamed "sealstream/sealstreamkeep.Left" = some 9 by kernel_rfl).symm.trans hf) |>.symm
  obtain rfl : fn = Tryz.f9 := (Option.some.inj (Tryz.func9.symm.trans hfn)).symm
  refine ⟨by kernel_rfl, fun j t ht => ?_⟩
  rw [Tryz.params9] at ht
  have hm : t ∈ [27, 3, 3, 3, 4] := by simpa using Array.mem_of_getElem? ht
  have hall : ([27, 3, 3, 3, 4].all fun u => !Tryz.prog.wantsStandIn u) = true := by kernel_rfl
  exact (show Tryz.prog.wantsStandIn t = false by simpa using List.all_eq_true.1 hall t hm)
theorem card : Rows.LeftUptoCardSaid :=
  uZ .later _ _ _ _ said (by kernel_rfl) leftUpto_row_tie rfl ⟨rfl, rfl⟩ (by kernel_rfl) rfl plain c_gb
#print axioms card
end Go.Proofs.YtgfdlpcdjklcoaaGreatDoor.lawLeft