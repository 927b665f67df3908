/- Contracts of package sealstreamkeep: pick, tagged, opens; no condition. -/
import Derived.Test.YtgfdlpcdjklcoaaDoorLawSealed
import Derived.Test.YtgfdlpcdjklcoaaDoorLawCoded
import Derived.Test.YtgfdlpcdjklcoaaDoorPlainSeal
import Derived.Test.YtgfdlpcdjklcoaaDoorRound
namespace Go.Proofs.YtgfdlpcdjklcoaaDoor
open Go Go.RowKit
set_option linter.unusedVariables false
set_option maxRecDepth 20000
variable {B : World}
theorem bigL_get (n : UInt64) {j : Nat} (h : j < 8) : (bigL n).getD j 0 = (n >>> UInt64.ofNat (56 - 8 * j)).toUInt8 := by
  rcases (by omega : j = 0 ∨ j = 1 ∨ j = 2 ∨ j = 3 ∨ j = 4 ∨ j = 5 ∨ j = 6 ∨ j = 7) with rfl | rfl | rfl | rfl | rfl | rfl | rfl | rfl
  all_goals first | rfl | (show n.toUInt8 = (n >>> 0).toUInt8; simp)
theorem drop_getD (xs : List UInt8) (k i : Nat) : (xs.drop k).getD i 0 = xs.getD (k + i) 0 := by simp [List.getD, List.getElem?_drop]
theorem tag_yes {xs : List UInt8} {n : UInt64} (hl : 8 ≤ xs.length) (h : ∀ i, i < 8 → xs.getD (xs.length - 8 + i) 0 = (bigL n).getD i 0) : bigL n = xs.drop (xs.length - 8) := by
  apply List.ext_getElem (by rw [bigL_length, List.length_drop]; omega)
  intro i h1 h2
  have := h i (by simpa [bigL_length] using h1)
  rw [← drop_getD] at this
  simp only [List.getD, List.getElem?_eq_getElem h1, List.getElem?_eq_getElem h2, Option.getD_some] at this
  exact this.symm
theorem tag_no {xs : List UInt8} {n : UInt64} {j : Nat} (h : (xs.getD (xs.length - 8 + j) 0).toNat ≠ ((n >>> UInt64.ofNat (56 - 8 * j)).toUInt8).toNat) (hj : j < 8) : ¬ bigL n = xs.drop (xs.length - 8) := by
  intro e
  apply h
  rw [← drop_getD, ← e, bigL_get n hj]

theorem kpick_spec (c : Int) (hr : -9223372036854775808 ≤ c ∧ c < 9223372036854775808) (n : Nat) (hn : 0 < n) (H : HP) : Fn Tryd.prog B 18 [.int .i64 c, iN n] H (fun v H' => v = iN (pickZ c n) ∧ H' = H) := by
  refine fn_intro Tryd.func18 rfl rfl rfl ?_
  refine w_seq ?_
  refine w_region rfl ?_
  refine l_val (v_assign (v := .int .i64 (0 : Nat)) rfl) rfl ?_
  refine l_nil ?_
  refine a_normal ?_
  refine w_seq ?_
  refine w_seq ?_
  refine w_region rfl ?_
  refine l_val (v_move rfl) rfl ?_
  refine l_val (v_lssZ (i := c) (j := 0) rfl rfl) rfl ?_
  refine l_nil ?_
  refine a_normal ?_
  refine w_condD rfl (fun hc => ?_) (fun hc => ?_)
  · skip
    have e : -(c + 1) = (((-(c + 1)).toNat : Nat) : Int) := by omega
    refine w_region rfl ?_
    refine l_val (v_move rfl) rfl ?_
    refine l_val (v_addZ (i := c) (j := 1) rfl rfl (by omega)) rfl ?_
    refine l_val (v_negI (i := c + 1) rfl (by omega)) rfl ?_
    refine l_val (v_assign rfl) rfl ?_
    refine l_nil ?_
    refine a_normal ?_
    refine w_seq ?_
    refine w_region rfl ?_
    refine l_val (v_move rfl) rfl ?_
    refine l_val (v_move rfl) rfl ?_
    refine l_val (v_rem (k := .i64) (i := if c < 0 then (-(c + 1)).toNat else c.toNat) (j := n) (by first | rw [if_pos hc, ← e]; rfl | rw [if_neg hc, ← e]; rfl) rfl (by omega)) rfl ?_
    refine l_val (v_assign rfl) rfl ?_
    refine l_nil ?_
    refine a_normal ?_
    refine w_ret ?_
    exact a_ret (ts := [4]) rfl rfl ⟨rfl, rfl⟩
  · skip
    have e : c = ((c.toNat : Nat) : Int) := by omega
    refine w_skip ?_
    refine a_normal ?_
    refine w_seq ?_
    refine w_region rfl ?_
    refine l_val (v_move rfl) rfl ?_
    refine l_val (v_move rfl) rfl ?_
    refine l_val (v_rem (k := .i64) (i := if c < 0 then (-(c + 1)).toNat else c.toNat) (j := n) (by first | rw [if_pos hc, ← e]; rfl | rw [if_neg hc, ← e]; rfl) rfl (by omega)) rfl ?_
    refine l_val (v_assign rfl) rfl ?_
    refine l_nil ?_
    refine a_normal ?_
    refine w_ret ?_
    exact a_ret (ts := [4]) rfl rfl ⟨rfl, rfl⟩

theorem tagged_spec (ks : List UInt8) (hk : ks.length = 16) (first : Bool) (xs : List UInt8) (p : Option Addr) (b o c : Nat) (H : HP) (hs : Sl p b o xs.length c) (hr : RdA B H b o xs) (h8 : 8 ≤ xs.length) (hx : xs.length < 90000000) :
    Fn Tryd.prog B 37 [.agg (flat ks).toArray, .bool first, .slice p xs.length c] H (fun v H' => v = .bool (tagOk ks (sideB first) xs) ∧ H' = H) := by
  refine fn_intro Tryd.func37 rfl rfl rfl ?_
  have hsK : Sl p b o (xs.take (xs.length - 8)).length c := ⟨hs.1, by rw [List.length_take]; have := hs.2; omega⟩
  have hKl : (xs.take (xs.length - 8)).length = xs.length - 8 := by rw [List.length_take]; omega
  refine w_seq ?_
  refine w_region rfl ?_
  refine l_eff (e_box (l := flat ks) rfl rfl) rfl ?_
  rintro _ _ ⟨b3, rfl, rfl⟩
  refine l_val (v_assign rfl) rfl ?_
  refine l_nil ?_
  refine a_normal ?_
  refine w_seq ?_
  refine w_region rfl ?_
  refine l_val (v_assign (v := .int .u8 (1 : Nat)) rfl) rfl ?_
  refine l_nil ?_
  refine a_normal ?_
  refine w_seq ?_
  refine w_seq ?_
  refine w_region rfl ?_
  refine l_val (v_move rfl) rfl ?_
  refine l_nil ?_
  refine a_normal ?_
  refine w_cut (α := Unit) (fun _ => [(2, .slice p xs.length c), (3, ptr b3 0), (7, u8 (sideB first))]) (fun _ => HP.pts b3 0 (flat ks) * H) (fun _ => True) ?_ ?_
  · skip
    refine w_cond rfl (fun hc => ?_) (fun hc => ?_)
    · skip
      refine w_region rfl ?_
      refine l_val (v_assign (v := .int .u8 (0 : Nat)) rfl) rfl ?_
      refine l_nil ?_
      exact a_cut () trivial (by subst hc; repeat (first | exact .nil | refine .cons rfl ?_)) rfl
    · skip
      refine w_skip ?_
      exact a_cut () trivial (by subst hc; repeat (first | exact .nil | refine .cons rfl ?_)) rfl
  · rintro z hz
    refine a_normal ?_
    refine w_seq ?_
    refine w_region rfl ?_
    refine l_val (v_move rfl) rfl ?_
    refine l_val (v_lenS rfl) rfl ?_
    refine l_val (v_subI (i := xs.length) (j := 8) rfl rfl (by omega)) rfl ?_
    refine l_val (v_assign rfl) rfl ?_
    refine l_nil ?_
    refine a_normal ?_
    refine w_seq ?_
    refine w_region rfl ?_
    refine l_val (v_move rfl) rfl ?_
    refine l_eff (e_mk1 rfl rfl (by simp [Value.oneCell']) rfl rfl rfl) rfl ?_
    rintro _ _ ⟨b17, rfl, rfl⟩
    refine l_heap (H' := arr b17 0 [sideB first, 2] [] * (HP.pts b3 0 (flat ks) * H)) rfl ?_
    refine l_val (v_assign rfl) rfl ?_
    refine l_nil ?_
    refine a_normal ?_
    refine w_seq ?_
    refine w_region rfl ?_
    refine l_val (v_move rfl) rfl ?_
    refine l_val (v_move rfl) rfl ?_
    refine l_val (v_move rfl) rfl ?_
    refine l_val (v_sliceShk (h := xs.length - 8) (k' := (xs.take (xs.length - 8)).length) rfl rfl (by have := hs.2; omega) hKl) rfl ?_
    refine l_eff (e_append (ys := xs.take (xs.length - 8)) (bb := b) (oo := o) (xs := [sideB first, 2]) rfl ⟨.inr rfl, Nat.le_refl _⟩ rfl rfl hsK inferInstance rfl (by rw [hKl]; show (2 + _) * _ ≤ _; omega) (by omega)) rfl ?_
    rintro _ _ ⟨p22, b22, o22, c22, s22, rfl, hs22, hc22, rfl⟩
    refine l_val (v_assign rfl) rfl ?_
    refine l_nil ?_
    refine a_normal ?_
    refine w_seq ?_
    refine w_region rfl ?_
    refine l_val (v_loadA rfl (flat16 hk)) rfl ?_
    refine l_val (v_move rfl) rfl ?_
    refine l_eff (e_call rfl (thash_spec ks ([sideB first, 2] ++ xs.take (xs.length - 8)) p22 b22 o22 c22 _ hk hs22 inferInstance (by rw [List.length_append, hKl]; show 2 + _ < _; omega))) rfl ?_
    rintro _ _ ⟨rfl, rfl⟩
    refine l_val (v_assign rfl) rfl ?_
    refine l_nil ?_
    refine a_normal ?_
    refine w_seq ?_
    refine w_seq ?_
    refine w_region rfl ?_
    refine l_val (v_assign (v := .int .i64 (0 : Nat)) rfl) rfl ?_
    refine l_nil ?_
    refine a_normal ?_
    refine w_block ?_
    refine w_ent H ?_
    refine w_loop (fun j : Nat => [(2, .slice p xs.length c), (8, iN (xs.length - 8)), (10, u64 (sip ks ([sideB first, 2] ++ xs.take (xs.length - 8)))), (11, iN j)]) (fun _ => H) (fun j => j ≤ 8 ∧ ∀ i, i < j → xs.getD (xs.length - 8 + i) 0 = (bigL (sip ks ([sideB first, 2] ++ xs.take (xs.length - 8)))).getD i 0) (fun j => 8 - j) 0 ⟨Nat.zero_le _, fun i hi => by omega⟩ (.cons rfl (.cons rfl (.cons rfl (.cons rfl .nil)))) rfl ?_
    rintro j ⟨hj, hall⟩
    dsimp only at hj hall ⊢
    refine w_seq ?_
    refine w_seq ?_
    refine w_region rfl ?_
    refine l_val (v_move rfl) rfl ?_
    refine l_val (v_lss (j := 8) rfl rfl) rfl ?_
    refine l_nil ?_
    refine a_normal ?_
    refine w_condD rfl (fun hc => ?_) (fun hc => ?_)
    · skip
      refine w_skip ?_
      refine a_normal ?_
      refine w_seq ?_
      refine w_block ?_
      refine w_seq ?_
      refine w_region rfl ?_
      refine l_val (v_move rfl) rfl ?_
      refine l_val (v_move rfl) rfl ?_
      refine l_val (v_move rfl) rfl ?_
      refine l_val (v_addI rfl rfl (by omega)) rfl ?_
      refine l_val (v_indexAddrR (b := b) (o := o) rfl rfl hs (by omega)) rfl ?_
      refine l_val (v_loadB (i := xs.length - 8 + j) (xs := xs) rfl inferInstance (by omega)) rfl ?_
      refine l_val (v_move rfl) rfl ?_
      refine l_val (v_move rfl) rfl ?_
      refine l_val (v_mulI (i := 8) (j := j) rfl rfl (by omega)) rfl ?_
      refine l_val (v_subI (i := 56) (j := 8 * j) rfl rfl (by omega)) rfl ?_
      refine l_val (v_conv (i := 56 - 8 * j) rfl (fit_u64 (by omega))) rfl ?_
      refine l_val (v_shr64 (j := 56 - 8 * j) rfl rfl (by omega)) rfl ?_
      refine l_val (v_to8 rfl) rfl ?_
      refine l_val (v_neq rfl rfl) rfl ?_
      refine l_nil ?_
      refine a_normal ?_
      refine w_condD rfl (fun hne => ?_) (fun hne => ?_)
      · skip
        refine w_seq ?_
        refine w_region rfl ?_
        refine l_val (v_assign rfl) rfl ?_
        refine l_nil ?_
        refine a_normal ?_
        refine w_ret ?_
        refine a_bret ?_
        refine a_tret ?_
        refine a_tret ?_
        refine a_bret ?_
        refine a_tret ?_
        exact a_ret (ts := [6]) rfl rfl ⟨by unfold tagOk; rw [decide_eq_false (tag_no hne hc)]; rfl, rfl⟩
      · skip
        refine w_skip ?_
        refine a_bnormal ?_
        refine a_normal ?_
        refine w_region rfl ?_
        refine l_val (v_move rfl) rfl ?_
        refine l_val (v_addI (j := 1) rfl rfl (by omega)) rfl ?_
        refine l_val (v_assign rfl) rfl ?_
        refine l_nil ?_
        exact a_loop (j + 1) ⟨hc, fun i hi => by
          rcases Nat.lt_or_ge i j with h | h
          · exact hall i h
          · obtain rfl : i = j := by omega
            rw [bigL_get _ hc]
            exact UInt8.toNat_inj.1 (Classical.not_not.1 hne)⟩ (by show 8 - (j + 1) < 8 - j; omega) (.cons rfl (.cons rfl (.cons rfl (.cons rfl .nil)))) rfl
    · skip
      refine w_exit ?_
      refine a_texit ?_
      refine a_texit ?_
      refine a_bexit ?_
      refine a_normal ?_
      refine w_seq ?_
      refine w_region rfl ?_
      refine l_val (v_assign rfl) rfl ?_
      refine l_nil ?_
      refine a_normal ?_
      refine w_ret ?_
      exact a_ret (ts := [6]) rfl rfl ⟨by unfold tagOk; rw [decide_eq_true (tag_yes (by omega) (fun i hi => hall i (by omega)))]; rfl, rfl⟩

theorem opens_spec (hG : B.cell? ⟨0, 0, none⟩ = some (rty 55)) (ks : List UInt8) (hk : ks.length = 16) (first : Bool) (xs : List UInt8) (p : Option Addr) (b o c : Nat) (H : HP) (hs : Sl p b o xs.length c) (hr : RdA B H b o xs) (hlo : 16 ≤ xs.length) (hhi : xs.length ≤ 300) (htop : (xs.getD 0 0).toNat ≤ 63) :
    Fn Tryd.prog B 19 [.agg (flat ks).toArray, .bool first, .slice p xs.length c] H (fun v H' => v = .bool true ∧ H' = H) := by
  refine fn_intro Tryd.func19 rfl rfl rfl ?_
  refine w_seq ?_
  refine w_region rfl ?_
  refine l_eff (e_box (l := flat ks) rfl rfl) rfl ?_
  rintro _ _ ⟨b3, rfl, rfl⟩
  refine l_val (v_assign rfl) rfl ?_
  refine l_nil ?_
  refine a_normal ?_
  refine w_seq ?_
  refine w_region rfl ?_
  refine l_val (v_loadA rfl (flat16 hk)) rfl ?_
  refine l_val (v_move rfl) rfl ?_
  refine l_val (v_move rfl) rfl ?_
  refine l_eff (e_call rfl (punseal_any hG ks hk first xs p b o c _ hs inferInstance (by omega))) rfl ?_
  rintro _ _ ⟨m15, q15, b15, o15, c15, ys15, k15, X15, rfl, hs15, hr15, rfl, hn15, h15⟩
  refine l_val (v_move rfl) rfl ?_
  refine l_val (v_extract rfl rfl) rfl ?_
  refine l_val (v_extract rfl rfl) rfl ?_
  refine l_val (v_extract rfl rfl) rfl ?_
  refine l_val (v_assign rfl) rfl ?_
  refine l_val (v_assign rfl) rfl ?_
  refine l_val (v_assign rfl) rfl ?_
  refine l_nil ?_
  refine a_normal ?_
  refine w_seq ?_
  refine w_region rfl ?_
  refine l_val (v_loadA rfl (flat16 hk)) rfl ?_
  refine l_val (v_move rfl) rfl ?_
  refine l_val (v_move rfl) rfl ?_
  refine l_eff (e_call rfl (tagged_spec ks hk first xs p b o c _ hs inferInstance (by omega) (by omega))) rfl ?_
  rintro _ _ ⟨rfl, rfl⟩
  refine l_val (v_assign rfl) rfl ?_
  refine l_nil ?_
  refine a_normal ?_
  refine w_seq ?_
  have hkey : (tagOk ks (sideB first) xs == decide (k15 = 0)) = true ∧ (tagOk ks (sideB first) xs = false → k15 = 4) := by
    rcases openL_tag (ks := ks) (side := sideB first) hlo hhi htop with ⟨e, et⟩ | ⟨z, e, et⟩ <;> rw [e] at h15 <;> rw [et] <;> rcases h15 with ⟨h, rfl, rfl, rfl⟩ | ⟨h, rfl⟩
    · exact ⟨rfl, fun _ => rfl⟩
    · cases h
    · cases h
    · exact ⟨rfl, fun h => by cases h⟩
  refine w_region rfl ?_
  refine l_val (v_move rfl) rfl ?_
  refine l_val (v_move rfl) rfl ?_
  refine l_val (v_eql (i := k15) (j := 0) rfl rfl) rfl ?_
  refine l_val (v_eqB rfl rfl) rfl ?_
  refine l_val (v_move rfl) rfl ?_
  refine l_gY rfl rfl rfl hkey.1 ?_
  refine l_val (v_move rfl) rfl ?_
  refine l_gY rfl rfl rfl hkey.1 ?_
  refine l_val (v_move rfl) rfl ?_
  refine l_caseB 29 rfl (fun hg1 => ?_) (fun hg1 => ?_)
  · skip
    refine l_gN rfl rfl rfl hg1 ?_
    refine l_gN rfl rfl rfl hg1 ?_
    refine l_gY rfl rfl rfl hkey.1 ?_
    refine l_val (v_pickY hg1 rfl rfl) rfl ?_
    refine l_val (v_pickY hkey.1 rfl rfl) rfl ?_
    refine l_val (v_assign rfl) rfl ?_
    refine l_nil ?_
    refine a_normal ?_
    refine w_ret ?_
    exact a_retD (ts := [6]) H rfl rfl ⟨by first | rfl | (rw [hg1]; rfl), rfl⟩
  · skip
    refine l_gY rfl rfl rfl hg1 ?_
    refine l_val (v_move rfl) rfl ?_
    refine l_gY rfl rfl rfl hg1 ?_
    refine l_val (v_eql (i := k15) (j := 4) rfl rfl) rfl ?_
    refine l_gY rfl rfl rfl hkey.1 ?_
    refine l_val (v_pickN hg1 rfl rfl) rfl ?_
    refine l_val (v_pickY hkey.1 rfl rfl) rfl ?_
    refine l_val (v_assign rfl) rfl ?_
    refine l_nil ?_
    refine a_normal ?_
    refine w_ret ?_
    exact a_retD (ts := [6]) H rfl rfl ⟨by rw [decide_eq_true (hkey.2 hg1)]; rfl, rfl⟩
end Go.Proofs.YtgfdlpcdjklcoaaDoor
