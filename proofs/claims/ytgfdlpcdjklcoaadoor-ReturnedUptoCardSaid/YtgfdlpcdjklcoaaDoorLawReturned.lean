/- The law Returned: what is encoded and sealed comes back, and nothing else does; no condition. -/
import Derived.Test.YtgfdlpcdjklcoaaDoorKeep
namespace Go.Proofs.YtgfdlpcdjklcoaaDoor
open Go Go.RowKit
set_option linter.unusedVariables false
set_option maxRecDepth 20000
variable {B : World}
/-- the frame of the law's first lines -/
abbrev RF1 : RF := ⟨⟨5, 1, 5, 0, true, ⟨#[97, 98]⟩, []⟩, none, 0, 0, 0, []⟩
abbrev Y1 : List UInt8 := [9, 1, 5, 2, 97, 98]
theorem enc1 : encL [RF1.f] = some Y1 := by kernel_rfl
theorem rd_one {r : RF} {b : Nat} {H : HP} (h1 : r.ok) (h2 : r.f.ranges = []) : RdFs B (HP.pts b 0 (encRF r) * H) (some ⟨b, 0, none⟩) 1 [r.f] b 0 [r] :=
  ⟨⟨.inr rfl, Nat.le_refl _⟩, (let _ : RdA B (HP.pts b 0 (encRF r)) b 0 [r] := RdA.one r; inferInstance), rfl, fun r' h => by rw [List.mem_singleton.1 h]; exact h1,
    fun r' h => by rw [List.mem_singleton.1 h, h2]; exact ⟨fun i f v e hi => by simp at hi⟩⟩
theorem mod1 : ∀ r ∈ [RF1], Mod r := fun r h => by
  rw [List.mem_singleton.1 h]
  exact ⟨⟨.inl rfl, Nat.le_refl _⟩, by decide, by decide⟩
theorem enc_is {fs : List Frm} {q : Option Addr} {c' k : Nat} {ys zs : List UInt8} (e : encL fs = some zs) (h : (encL fs = none ∧ ys = [] ∧ q = none ∧ c' = 0 ∧ k = 5) ∨ (encL fs = some ys ∧ ys ≠ [] ∧ k = 0)) : zs = ys ∧ k = 0 := by
  rcases h with ⟨h, _⟩ | ⟨h, _, rfl⟩
  · rw [e] at h; cases h
  · rw [e] at h; exact ⟨Option.some.inj h, rfl⟩
theorem dec_is {xs : List UInt8} {fs gs : List Frm} {q : Option Addr} {c' k : Nat} {at_ : Value} (e : decL xs = .ok gs) (h : (∃ e, decL xs = .error e ∧ fs = [] ∧ q = none ∧ c' = 0 ∧ k = 5 ∧ at_ = iN e) ∨ (decL xs = .ok fs ∧ k = 0 ∧ at_ = .int .i64 (-1))) : gs = fs ∧ k = 0 := by
  rcases h with ⟨_, h, _⟩ | ⟨h, rfl, _⟩
  · rw [e] at h; cases h
  · rw [e] at h; exact ⟨Except.ok.inj h, rfl⟩
theorem open_is {ks : List UInt8} {sd : UInt8} {xs ys zs : List UInt8} {n m : UInt64} {k : Nat} (e : openL ks sd xs = some (n, zs)) (h : (openL ks sd xs = none ∧ m = 0 ∧ ys = [] ∧ k = 4) ∨ (openL ks sd xs = some (m, ys) ∧ k = 0)) : n = m ∧ zs = ys ∧ k = 0 := by
  rcases h with ⟨h, _⟩ | ⟨h, rfl⟩
  · rw [e] at h; cases h
  · rw [e] at h; cases h; exact ⟨rfl, rfl, rfl⟩
theorem open_no {ks : List UInt8} {sd : UInt8} {xs ys : List UInt8} {m : UInt64} {k : Nat} (e : openL ks sd xs = none) (h : (openL ks sd xs = none ∧ m = 0 ∧ ys = [] ∧ k = 4) ∨ (openL ks sd xs = some (m, ys) ∧ k = 0)) : 4 = k := by
  rcases h with ⟨_, _, _, rfl⟩ | ⟨h, _⟩
  · rfl
  · rw [e] at h; cases h
theorem norm_mod {fs : List Frm} {rs ts : List RF} (hm : rs.map RF.f = fs) (hmd : ∀ r ∈ rs, Mod r) (ht : ts.map RF.f = fs.map norm) (ho : ∀ r ∈ ts, r.ok ∧ r.own) : ∀ r ∈ ts, Mod r := by
  intro r hr
  have h1 : r.f ∈ fs.map norm := ht ▸ List.mem_map.2 ⟨r, hr, rfl⟩
  obtain ⟨f, hf, e⟩ := List.mem_map.1 h1
  rw [← hm] at hf
  obtain ⟨r0, hr0, rfl⟩ := List.mem_map.1 hf
  have h2 := hmd r0 hr0
  have h3 := norm_small r0.f
  rw [e] at h3
  exact ⟨(ho r hr).1, Nat.lt_of_le_of_lt h3.1 h2.len, Nat.lt_of_le_of_lt h3.2 h2.size⟩

theorem returned_spec (hG : B.cell? ⟨0, 0, none⟩ = some (rty 55)) (fs : List Frm) (p : Option Addr) (c b o : Nat) (rs : List RF) (ks : List UInt8) (hk : ks.length = 16) (first : Bool) (number : UInt64) (k : Int) (hkr : -9223372036854775808 ≤ k ∧ k < 9223372036854775808) (H : HP)
    (hfs : RdFs B H p c fs b o rs) (hmd : ∀ r ∈ rs, Mod r) (hn : fs.length < 10000000000) (hel : (encAll fs).length < 80000000) :
    Fn Tryd.prog B 5 [.slice p fs.length c, .agg (flat ks).toArray, .bool first, u64 number, .int .i64 k] H (fun v _ => v = .bool true) := by
  have hrl := hfs.len
  have hfl : ∀ f ∈ fs, f.ranges.length ≤ 4611686018427387903 := fun f hf => by
    rw [← hfs.map] at hf
    obtain ⟨r, hr, rfl⟩ := List.mem_map.1 hf
    have := (hmd r hr).len
    omega
  have hks := flat16 hk
  refine fn_intro Tryd.func5 rfl rfl rfl ?_
  refine w_seq ?_
  refine w_region rfl ?_
  refine l_eff (e_box (l := flat ks) rfl rfl) rfl ?_
  rintro _ _ ⟨b6, rfl, rfl⟩
  refine l_val (v_assign rfl) rfl ?_
  refine l_nil ?_
  refine a_normal ?_
  refine w_seq ?_
  refine w_region rfl ?_
  refine l_val (v_mkS (cs := encRF RF1) rfl rfl rfl (Lay.one RF1)) rfl ?_
  refine l_eff (e_buildSlice (cs := encRF RF1) rfl (by first | kernel_rfl | simp [Instr.fill, Value.cells]) rfl rfl) rfl ?_
  rintro _ _ ⟨b29, rfl, rfl⟩
  refine l_eff (e_call rfl (pencode_spec hG [RF1.f] (some ⟨b29, 0, none⟩) 1 b29 0 [RF1] _ (rd_one ⟨.inl rfl, Nat.le_refl _⟩ rfl) mod1 (by decide) (by rw [← (encL_ne enc1).2]; decide))) rfl ?_
  rintro _ _ ⟨q30, b30, o30, c30, s30, ys30, k30, rfl, hs30, hc30, rfl, hr30⟩
  obtain ⟨rfl, rfl⟩ := enc_is enc1 hr30
  refine l_val (v_move rfl) rfl ?_
  refine l_val (v_extract rfl rfl) rfl ?_
  refine l_val (v_extract rfl rfl) rfl ?_
  refine l_val (v_assign rfl) rfl ?_
  refine l_val (v_assign rfl) rfl ?_
  refine l_nil ?_
  refine a_normal ?_
  refine w_seq ?_
  refine w_region rfl ?_
  refine l_val (v_loadA rfl hks) rfl ?_
  refine l_val (v_move rfl) rfl ?_
  refine l_val (v_move rfl) rfl ?_
  refine l_eff (e_call rfl (pseal_spec ks hk first 70 Y1 q30 b30 o30 c30 _ hs30 inferInstance (by decide))) rfl ?_
  rintro _ _ ⟨p36, b36, o36, c36, s36, rfl, hs36, hc36, rfl⟩
  have hL36 : (sealL ks (sideB first) 70 Y1).length = 6 + 16 := by rw [sealL_length]; rfl
  have hB36 : ((sealL ks (sideB first) 70 Y1).getD 7 0).toNat = 70 := rfl
  refine l_val (v_assign rfl) rfl ?_
  refine l_nil ?_
  refine a_normal ?_
  refine w_seq ?_
  refine w_seq ?_
  refine w_region rfl ?_
  refine l_val (v_move rfl) rfl ?_
  refine l_val (v_neq (i := 0) (j := 0) rfl rfl) rfl ?_
  refine l_val (v_move rfl) rfl ?_
  refine l_gY rfl rfl rfl (decide_eq_false (fun h => h rfl)) ?_
  refine l_val (v_move rfl) rfl ?_
  refine l_gY rfl rfl rfl (decide_eq_false (fun h => h rfl)) ?_
  refine l_val (v_lenS rfl) rfl ?_
  refine l_gY rfl rfl rfl (decide_eq_false (fun h => h rfl)) ?_
  refine l_val (v_neq (i := 6) (j := 6) rfl rfl) rfl ?_
  refine l_val (v_pickN (decide_eq_false (fun h => h rfl)) rfl rfl) rfl ?_
  refine l_val (v_move rfl) rfl ?_
  refine l_gY rfl rfl rfl (decide_eq_false (fun h => h rfl)) ?_
  refine l_val (v_move rfl) rfl ?_
  refine l_gY rfl rfl rfl (decide_eq_false (fun h => h rfl)) ?_
  refine l_val (v_lenS rfl) rfl ?_
  refine l_gY rfl rfl rfl (decide_eq_false (fun h => h rfl)) ?_
  refine l_val (v_move rfl) rfl ?_
  refine l_gY rfl rfl rfl (decide_eq_false (fun h => h rfl)) ?_
  refine l_val (v_lenS rfl) rfl ?_
  refine l_gY rfl rfl rfl (decide_eq_false (fun h => h rfl)) ?_
  refine l_val (v_addI (i := 6) (j := 16) rfl rfl (by omega)) rfl ?_
  refine l_gY rfl rfl rfl (decide_eq_false (fun h => h rfl)) ?_
  refine l_val (v_neq rfl rfl) rfl ?_
  refine l_val (v_pickN (decide_eq_false (fun h => h rfl)) rfl rfl) rfl ?_
  refine l_val (v_move rfl) rfl ?_
  refine l_gY rfl rfl rfl (decide_eq_false (fun h => h hL36)) ?_
  refine l_val (v_move rfl) rfl ?_
  refine l_gY rfl rfl rfl (decide_eq_false (fun h => h hL36)) ?_
  refine l_val (v_indexAddrR (i := 7) (b := b36) (o := o36) rfl rfl hs36 (by rw [hL36]; omega)) rfl ?_
  refine l_gY rfl rfl rfl (decide_eq_false (fun h => h hL36)) ?_
  refine l_val (v_loadB (i := 7) (xs := (sealL ks (sideB first) 70 Y1)) rfl inferInstance (by rw [hL36]; omega)) rfl ?_
  refine l_gY rfl rfl rfl (decide_eq_false (fun h => h hL36)) ?_
  refine l_val (v_neq (j := 70) rfl rfl) rfl ?_
  refine l_val (v_pickN (decide_eq_false (fun h => h hL36)) rfl rfl) rfl ?_
  refine l_nil ?_
  refine a_normal ?_
  refine w_condN rfl (decide_eq_false (fun h => h hB36)) ?_
  refine w_skip ?_
  refine a_normal ?_
  refine w_seq ?_
  refine w_seq ?_
  refine w_ent (HP.pts b6 0 (flat ks) * H) ?_
  refine w_region rfl ?_
  refine l_val (v_move rfl) rfl ?_
  refine l_val (v_lenS rfl) rfl ?_
  refine l_val (v_gtr (i := fs.length) (j := 1000) rfl rfl) rfl ?_
  refine l_val (v_move rfl) rfl ?_
  refine l_case 61 rfl (fun hg1 => ?_) (fun hg1 => ?_)
  · skip
    refine l_gN rfl rfl rfl (decide_eq_true hg1) ?_
    refine l_gN rfl rfl rfl (decide_eq_true hg1) ?_
    refine l_val (v_pickY (decide_eq_true hg1) rfl rfl) rfl ?_
    refine l_nil ?_
    refine a_normal ?_
    refine w_condY rfl rfl ?_
    refine w_seq ?_
    refine w_region rfl ?_
    refine l_val (v_assign rfl) rfl ?_
    refine l_nil ?_
    refine a_normal ?_
    refine w_ret ?_
    refine a_tret ?_
    exact a_ret (ts := [10]) rfl rfl rfl
  · skip
    refine l_gY rfl rfl rfl (decide_eq_false hg1) ?_
    refine l_val (v_move rfl) rfl ?_
    refine l_gY rfl rfl rfl (decide_eq_false hg1) ?_
    refine l_val (v_gtr (i := number.toNat) (j := 4611686018427387903) rfl rfl) rfl ?_
    refine l_val (v_pickN (decide_eq_false hg1) rfl rfl) rfl ?_
    refine l_nil ?_
    refine a_normal ?_
    refine w_condD rfl (fun hbig => ?_) (fun hnum => ?_)
    · skip
      refine w_seq ?_
      refine w_region rfl ?_
      refine l_val (v_assign rfl) rfl ?_
      refine l_nil ?_
      refine a_normal ?_
      refine w_ret ?_
      refine a_tret ?_
      exact a_ret (ts := [10]) rfl rfl rfl
    · skip
      refine w_skip ?_
      refine a_normal ?_
      refine w_seq ?_
      refine w_region rfl ?_
      refine l_val (v_move rfl) rfl ?_
      refine l_eff (e_call rfl (pencode_spec hG fs p c b o rs _ hfs.right hmd hn (by omega))) rfl ?_
      rintro _ _ ⟨q67, b67, o67, c67, s67, ys67, k67, rfl, hs67, hc67, rfl, hr67⟩
      refine l_val (v_move rfl) rfl ?_
      refine l_val (v_extract rfl rfl) rfl ?_
      refine l_val (v_extract rfl rfl) rfl ?_
      refine l_val (v_assign rfl) rfl ?_
      refine l_val (v_assign rfl) rfl ?_
      refine l_nil ?_
      refine a_normal ?_
      refine w_seq ?_
      refine w_seq ?_
      refine w_region rfl ?_
      refine l_val (v_move rfl) rfl ?_
      refine l_val (v_neq (i := k67) (j := 0) rfl rfl) rfl ?_
      refine l_nil ?_
      refine a_normal ?_
      refine w_condD rfl (fun hc => ?_) (fun hc => ?_)
      · skip
        rcases hr67 with ⟨e67, rfl, rfl, rfl, rfl⟩ | ⟨e67, hne67, rfl⟩
        rotate_left
        · exact absurd rfl hc
        refine w_seq ?_
        refine w_region rfl ?_
        refine l_val (v_move rfl) rfl ?_
        refine l_val (v_eql (i := 5) (j := 5) rfl rfl) rfl ?_
        refine l_val (v_move rfl) rfl ?_
        refine l_gY rfl rfl rfl (decide_eq_true rfl) ?_
        refine l_val (v_move rfl) rfl ?_
        refine l_gY rfl rfl rfl (decide_eq_true rfl) ?_
        refine l_val (v_eqNil rfl rfl) rfl ?_
        refine l_val (v_pickY (decide_eq_true rfl) rfl rfl) rfl ?_
        refine l_val (v_assign rfl) rfl ?_
        refine l_nil ?_
        refine a_normal ?_
        refine w_ret ?_
        refine a_tret ?_
        exact a_ret (ts := [10]) rfl rfl rfl
      · skip
        rcases hr67 with ⟨e67, rfl, rfl, rfl, rfl⟩ | ⟨e67, hne67, rfl⟩
        · exact absurd (by decide) hc
        obtain ⟨ys, rfl⟩ : ∃ ys, ys = ys67 := ⟨_, rfl⟩
        obtain ⟨hdec, henc2, hall2⟩ := dec_enc e67 hfl
        have hyl : ys.length < 80000000 := by rw [(encL_ne e67).2]; exact hel
        refine w_skip ?_
        refine a_normal ?_
        refine w_seq ?_
        refine w_region rfl ?_
        refine l_val (v_move rfl) rfl ?_
        refine l_eff (e_call rfl (pdecode_spec hG q67 b67 o67 c67 ys _ hs67 inferInstance (by omega))) rfl ?_
        rintro _ _ ⟨q80, b80, o80, c80, s80, rs80, fs80, k80, at80, rfl, hs80, hc80, hm80, ho80, rfl, hr80⟩
        obtain ⟨rfl, rfl⟩ := dec_is hdec hr80
        refine l_val (v_move rfl) rfl ?_
        refine l_val (v_extract rfl rfl) rfl ?_
        refine l_val (v_extract rfl rfl) rfl ?_
        refine l_val (v_extract rfl rfl) rfl ?_
        refine l_val (v_assign rfl) rfl ?_
        refine l_val (v_assign rfl) rfl ?_
        refine l_val (v_assign rfl) rfl ?_
        refine l_nil ?_
        refine a_normal ?_
        refine w_seq ?_
        refine w_region rfl ?_
        refine l_val (v_move rfl) rfl ?_
        refine l_eff (e_call rfl (pencode_spec hG (fs.map norm) q80 c80 b80 o80 rs80 _ (IsFs.rd hs80 hm80 ho80) (norm_mod hfs.map hmd hm80 ho80) (by rw [List.length_map]; omega) (by rw [hall2]; omega))) rfl ?_
        rintro _ _ ⟨q86, b86, o86, c86, s86, ys86, k86, rfl, hs86, hc86, rfl, hr86⟩
        obtain ⟨rfl, rfl⟩ := enc_is henc2 hr86
        refine l_val (v_move rfl) rfl ?_
        refine l_val (v_extract rfl rfl) rfl ?_
        refine l_val (v_extract rfl rfl) rfl ?_
        refine l_val (v_assign rfl) rfl ?_
        refine l_val (v_assign rfl) rfl ?_
        refine l_nil ?_
        refine a_normal ?_
        refine w_seq ?_
        refine w_seq ?_
        refine w_region rfl ?_
        refine l_val (v_move rfl) rfl ?_
        refine l_val (v_neq (i := 0) (j := 0) rfl rfl) rfl ?_
        refine l_val (v_move rfl) rfl ?_
        refine l_gY rfl rfl rfl (decide_eq_false (fun h => h rfl)) ?_
        refine l_val (v_move rfl) rfl ?_
        refine l_gY rfl rfl rfl (decide_eq_false (fun h => h rfl)) ?_
        refine l_val (v_neq (i := 0) (j := 0) rfl rfl) rfl ?_
        refine l_val (v_pickN (decide_eq_false (fun h => h rfl)) rfl rfl) rfl ?_
        refine l_val (v_move rfl) rfl ?_
        refine l_gY rfl rfl rfl (decide_eq_false (fun h => h rfl)) ?_
        refine l_val (v_move rfl) rfl ?_
        refine l_gY rfl rfl rfl (decide_eq_false (fun h => h rfl)) ?_
        refine l_val (v_bytes2str (xs := ys) rfl hs86 inferInstance) rfl ?_
        refine l_gY rfl rfl rfl (decide_eq_false (fun h => h rfl)) ?_
        refine l_val (v_move rfl) rfl ?_
        refine l_gY rfl rfl rfl (decide_eq_false (fun h => h rfl)) ?_
        refine l_val (v_bytes2str (xs := ys) rfl hs67 inferInstance) rfl ?_
        refine l_gY rfl rfl rfl (decide_eq_false (fun h => h rfl)) ?_
        refine l_val (v_neS rfl rfl) rfl ?_
        refine l_val (v_pickN (decide_eq_false (fun h => h rfl)) rfl rfl) rfl ?_
        refine l_val (v_move rfl) rfl ?_
        refine l_gY rfl rfl rfl (decide_eq_false (fun h => h rfl)) ?_
        refine l_val (v_move rfl) rfl ?_
        refine l_gY rfl rfl rfl (decide_eq_false (fun h => h rfl)) ?_
        refine l_val (v_lenS rfl) rfl ?_
        refine l_gY rfl rfl rfl (decide_eq_false (fun h => h rfl)) ?_
        refine l_val (v_move rfl) rfl ?_
        refine l_gY rfl rfl rfl (decide_eq_false (fun h => h rfl)) ?_
        refine l_val (v_lenS rfl) rfl ?_
        refine l_gY rfl rfl rfl (decide_eq_false (fun h => h rfl)) ?_
        refine l_val (v_neq rfl rfl) rfl ?_
        refine l_val (v_pickN (decide_eq_false (fun h => h rfl)) rfl rfl) rfl ?_
        refine l_nil ?_
        refine a_normal ?_
        refine w_condN rfl (decide_eq_false (fun h => h (List.length_map ..))) ?_
        refine w_skip ?_
        refine a_normal ?_
        refine w_seq ?_
        refine w_ent (arr b67 o67 ys s67 * (HP.pts b6 0 (flat ks) * H)) ?_
        refine w_region rfl ?_
        refine l_val (v_loadA rfl hks) rfl ?_
        refine l_val (v_move rfl) rfl ?_
        refine l_val (v_move rfl) rfl ?_
        refine l_val (v_move rfl) rfl ?_
        refine l_eff (e_call rfl (pseal_spec ks hk first number ys q67 b67 o67 c67 _ hs67 inferInstance (by omega))) rfl ?_
        rintro _ _ ⟨p113, b113, o113, c113, s113, rfl, hs113, hc113, rfl⟩
        have hcl := sealL_length ks (sideB first) number ys
        have hbig1 := openL_big (ks := ks) (side := sideB first) (xs := (sealL ks (sideB first) number ys))
        have hopn := openL_seal ks (sideB first) number ys (by omega)
        have htop : ((sealL ks (sideB first) number ys).getD 0 0).toNat ≤ 63 := by rw [sealL, List.append_assoc]; exact top_big (by omega) _
        generalize (sealL ks (sideB first) number ys) = cs at *
        refine l_val (v_assign rfl) rfl ?_
        refine l_nil ?_
        refine a_normal ?_
        refine w_seq ?_
        refine w_region rfl ?_
        refine l_val (v_loadA rfl hks) rfl ?_
        refine l_val (v_move rfl) rfl ?_
        refine l_val (v_move rfl) rfl ?_
        refine l_eff (e_call rfl (punseal_any hG ks hk first cs p113 b113 o113 c113 _ hs113 inferInstance (by omega))) rfl ?_
        rintro _ _ ⟨m118, q118, b118, o118, c118, ys118, k118, X118, rfl, hs118, hr118, rfl, hn118, h118⟩
        refine l_val (v_move rfl) rfl ?_
        refine l_val (v_extract rfl rfl) rfl ?_
        refine l_val (v_extract rfl rfl) rfl ?_
        refine l_val (v_extract rfl rfl) rfl ?_
        refine l_val (v_assign rfl) rfl ?_
        refine l_val (v_assign rfl) rfl ?_
        refine l_val (v_assign rfl) rfl ?_
        refine l_nil ?_
        refine a_normal ?_
        refine w_seq ?_
        refine w_seq ?_
        refine w_region rfl ?_
        refine l_val (v_move rfl) rfl ?_
        refine l_val (v_lenS rfl) rfl ?_
        refine l_val (v_gtr (i := cs.length) (j := 300) rfl rfl) rfl ?_
        refine l_nil ?_
        refine a_normal ?_
        refine w_condD rfl (fun hc => ?_) (fun hc => ?_)
        · skip
          obtain rfl := open_no (hbig1 hc) h118
          refine w_seq ?_
          refine w_region rfl ?_
          refine l_val (v_move rfl) rfl ?_
          refine l_val (v_eql (i := 4) (j := 4) rfl rfl) rfl ?_
          refine l_val (v_assign rfl) rfl ?_
          refine l_nil ?_
          refine a_normal ?_
          refine w_ret ?_
          refine a_tret ?_
          exact a_ret (ts := [10]) rfl rfl rfl
        · skip
          obtain ⟨rfl, rfl, rfl⟩ := open_is (hopn (by omega)) h118
          refine w_skip ?_
          refine a_normal ?_
          refine w_seq ?_
          refine w_seq ?_
          refine w_region rfl ?_
          refine l_val (v_move rfl) rfl ?_
          refine l_val (v_neq (i := 0) (j := 0) rfl rfl) rfl ?_
          refine l_val (v_move rfl) rfl ?_
          refine l_gY rfl rfl rfl (decide_eq_false (fun h => h rfl)) ?_
          refine l_val (v_move rfl) rfl ?_
          refine l_gY rfl rfl rfl (decide_eq_false (fun h => h rfl)) ?_
          refine l_val (v_move rfl) rfl ?_
          refine l_gY rfl rfl rfl (decide_eq_false (fun h => h rfl)) ?_
          refine l_val (v_neq rfl rfl) rfl ?_
          refine l_val (v_pickN (decide_eq_false (fun h => h rfl)) rfl rfl) rfl ?_
          refine l_val (v_move rfl) rfl ?_
          refine l_gY rfl rfl rfl (decide_eq_false (fun h => h rfl)) ?_
          refine l_val (v_move rfl) rfl ?_
          refine l_gY rfl rfl rfl (decide_eq_false (fun h => h rfl)) ?_
          refine l_val (v_bytes2str (xs := ys) rfl hs118 inferInstance) rfl ?_
          refine l_gY rfl rfl rfl (decide_eq_false (fun h => h rfl)) ?_
          refine l_val (v_move rfl) rfl ?_
          refine l_gY rfl rfl rfl (decide_eq_false (fun h => h rfl)) ?_
          refine l_val (v_bytes2str (xs := ys) rfl hs67 inferInstance) rfl ?_
          refine l_gY rfl rfl rfl (decide_eq_false (fun h => h rfl)) ?_
          refine l_val (v_neS rfl rfl) rfl ?_
          refine l_val (v_pickN (decide_eq_false (fun h => h rfl)) rfl rfl) rfl ?_
          refine l_nil ?_
          refine a_normal ?_
          refine w_condN rfl (decide_eq_false (fun h => h rfl)) ?_
          refine w_skip ?_
          refine a_normal ?_
          refine w_seq ?_
          refine w_ent (arr b113 o113 cs s113 * (HP.pts b6 0 (flat ks) * H)) ?_
          refine w_region rfl ?_
          refine l_val (v_loadA rfl hks) rfl ?_
          refine l_eff (e_alloc (l := flat (List.replicate 16 (0 : UInt8))) rfl) rfl ?_
          rintro _ _ ⟨b22, rfl, rfl⟩
          refine l_eff0 (e_storeA (cs := flat ks) rfl rfl ⟨hks, rfl⟩ (flat_one _)) ?_
          rintro _ _ ⟨rfl, rfl⟩
          refine l_nil ?_
          refine a_normal ?_
          refine w_seq ?_
          refine w_region rfl ?_
          refine l_val (v_move rfl) rfl ?_
          refine l_eff (e_call rfl (kpick_spec k hkr 128 (by omega) _)) rfl ?_
          rintro _ _ ⟨rfl, rfl⟩
          refine l_val (v_assign rfl) rfl ?_
          refine l_nil ?_
          refine a_normal ?_
          refine w_seq ?_
          have hpk : pickZ k 128 < 128 := Nat.mod_lt _ (by omega)
          refine w_heap (H' := arr b22 0 ks [] * (arr b113 o113 cs s113 * (HP.pts b6 0 (flat ks) * H))) (by simp [arr]) ?_
          refine w_region rfl ?_
          refine l_val (v_move rfl) rfl ?_
          refine l_val (v_quoI (j := 8) rfl rfl (by omega)) rfl ?_
          refine l_val (v_move rfl) rfl ?_
          refine l_val (v_quoI (j := 8) rfl rfl (by omega)) rfl ?_
          refine l_val (v_indexAddrA (i := (pickZ k 128 / 8)) (sz := 1) rfl rfl (by omega)) rfl ?_
          refine l_val (v_loadB (i := (pickZ k 128 / 8)) (o := 0) (xs := ks) rfl inferInstance (by omega)) rfl ?_
          refine l_val (v_move rfl) rfl ?_
          refine l_val (v_remI (j := 8) rfl rfl (by omega)) rfl ?_
          refine l_val (v_conv rfl (fit_u64 (by omega))) rfl ?_
          refine l_val (v_shlB rfl rfl (by omega)) rfl ?_
          refine l_val (v_xorB rfl rfl) rfl ?_
          refine l_val (v_indexAddrA (i := (pickZ k 128 / 8)) (sz := 1) rfl rfl (by omega)) rfl ?_
          refine l_eff0 (e_store (v := u8 _) rfl rfl rfl (by omega)) ?_
          rintro _ _ ⟨rfl, rfl⟩
          obtain ⟨k2, hk2⟩ : ∃ k2, k2 = ks.set (pickZ k 128 / 8) (ks.getD (pickZ k 128 / 8) 0 ^^^ UInt8.ofNat (1 * 2 ^ (pickZ k 128 % 8))) := ⟨_, rfl⟩
          rw [← hk2]
          have hk2l : k2.length = 16 := by rw [hk2, List.length_set]; exact hk
          clear hk2 hpk
          refine l_nil ?_
          refine a_normal ?_
          refine w_seq ?_
          refine w_region rfl ?_
          refine l_val (v_loadR (xs := k2) (o := 0) rfl inferInstance (by rw [hk2l]; rfl)) rfl ?_
          refine l_val (v_move rfl) rfl ?_
          refine l_val (v_move rfl) rfl ?_
          refine l_eff (e_call rfl (opens_spec hG k2 hk2l first cs p113 b113 o113 c113 _ hs113 inferInstance (by omega) (by omega) htop)) rfl ?_
          rintro _ _ ⟨rfl, rfl⟩
          refine l_val (v_assign rfl) rfl ?_
          refine l_nil ?_
          refine a_normal ?_
          refine w_seq ?_
          refine w_region rfl ?_
          refine l_val (v_loadA rfl hks) rfl ?_
          refine l_val (v_move rfl) rfl ?_
          refine l_val (v_not rfl) rfl ?_
          refine l_val (v_move rfl) rfl ?_
          refine l_eff (e_call rfl (opens_spec hG ks hk (!first) cs p113 b113 o113 c113 _ hs113 inferInstance (by omega) (by omega) htop)) rfl ?_
          rintro _ _ ⟨rfl, rfl⟩
          refine l_val (v_assign rfl) rfl ?_
          refine l_nil ?_
          refine a_normal ?_
          refine w_seq ?_
          refine w_region rfl ?_
          refine l_val (v_move rfl) rfl ?_
          refine l_val (v_move rfl) rfl ?_
          refine l_val (v_lenS rfl) rfl ?_
          refine l_val (v_mulI (i := 8) (j := cs.length) rfl rfl (by omega)) rfl ?_
          refine l_eff (e_call rfl (kpick_spec k hkr (8 * cs.length) (by omega) _)) rfl ?_
          rintro _ _ ⟨rfl, rfl⟩
          refine l_val (v_assign rfl) rfl ?_
          refine l_nil ?_
          refine a_normal ?_
          refine w_seq ?_
          have hpk : pickZ k (8 * cs.length) < 8 * cs.length := Nat.mod_lt _ (by omega)
          refine w_heap (H' := arr b113 o113 cs s113 * (arr b22 0 k2 [] * (HP.pts b6 0 (flat ks) * H))) (by ac_rfl) ?_
          refine w_region rfl ?_
          refine l_val (v_move rfl) rfl ?_
          refine l_val (v_move rfl) rfl ?_
          refine l_val (v_quoI (j := 8) rfl rfl (by omega)) rfl ?_
          refine l_val (v_move rfl) rfl ?_
          refine l_val (v_move rfl) rfl ?_
          refine l_val (v_quoI (j := 8) rfl rfl (by omega)) rfl ?_
          refine l_val (v_indexAddrR (i := (pickZ k (8 * cs.length) / 8)) (b := b113) (o := o113) rfl rfl hs113 (by omega)) rfl ?_
          refine l_val (v_loadB (i := (pickZ k (8 * cs.length) / 8)) (xs := cs) rfl inferInstance (by omega)) rfl ?_
          refine l_val (v_move rfl) rfl ?_
          refine l_val (v_remI (j := 8) rfl rfl (by omega)) rfl ?_
          refine l_val (v_conv rfl (fit_u64 (by omega))) rfl ?_
          refine l_val (v_shlB rfl rfl (by omega)) rfl ?_
          refine l_val (v_xorB rfl rfl) rfl ?_
          refine l_val (v_indexAddrR (i := (pickZ k (8 * cs.length) / 8)) (b := b113) (o := o113) rfl rfl hs113 (by omega)) rfl ?_
          refine l_eff0 (e_store (v := u8 _) rfl rfl rfl (by omega)) ?_
          rintro _ _ ⟨rfl, rfl⟩
          obtain ⟨c2, hc2⟩ : ∃ c2, c2 = cs.set (pickZ k (8 * cs.length) / 8) (cs.getD (pickZ k (8 * cs.length) / 8) 0 ^^^ UInt8.ofNat (1 * 2 ^ (pickZ k (8 * cs.length) % 8))) := ⟨_, rfl⟩
          rw [← hc2]
          have hc2l : c2.length = cs.length := by rw [hc2, List.length_set]
          clear hc2 hpk
          refine l_nil ?_
          refine a_normal ?_
          refine w_seq ?_
          refine w_region rfl ?_
          refine l_val (v_move rfl) rfl ?_
          refine l_val (v_indexAddrR (i := 0) (b := b113) (o := o113) rfl rfl hs113 (by omega)) rfl ?_
          refine l_val (v_loadB (i := 0) (xs := c2) rfl inferInstance (by omega)) rfl ?_
          refine l_val (v_gtr (j := 63) rfl rfl) rfl ?_
          refine l_val (v_move rfl) rfl ?_
          refine l_case 188 rfl (fun hg2 => ?_) (fun hg2 => ?_)
          · skip
            refine l_gN rfl rfl rfl (decide_eq_true hg2) ?_
            refine l_gN rfl rfl rfl (decide_eq_true hg2) ?_
            refine l_gN rfl rfl rfl (decide_eq_true hg2) ?_
            refine l_gN rfl rfl rfl (decide_eq_true hg2) ?_
            refine l_val (v_pickY (decide_eq_true hg2) rfl rfl) rfl ?_
            refine l_val (v_assign rfl) rfl ?_
            refine l_nil ?_
            refine a_normal ?_
            refine w_seq ?_
            refine w_region rfl ?_
            refine l_val (v_move rfl) rfl ?_
            refine l_val (v_move rfl) rfl ?_
            refine l_gY rfl rfl rfl rfl ?_
            refine l_val (v_move rfl) rfl ?_
            refine l_val (v_pickY rfl rfl rfl) rfl ?_
            refine l_val (v_move rfl) rfl ?_
            refine l_gY rfl rfl rfl rfl ?_
            refine l_val (v_move rfl) rfl ?_
            refine l_val (v_pickY rfl rfl rfl) rfl ?_
            refine l_val (v_assign rfl) rfl ?_
            refine l_nil ?_
            refine a_normal ?_
            refine w_ret ?_
            exact a_ret (ts := [10]) rfl rfl rfl
          · skip
            rw [← hc2l] at hs113
            refine l_gY rfl rfl rfl (decide_eq_false hg2) ?_
            refine l_val (v_loadA rfl hks) rfl ?_
            refine l_gY rfl rfl rfl (decide_eq_false hg2) ?_
            refine l_val (v_move rfl) rfl ?_
            refine l_gY rfl rfl rfl (decide_eq_false hg2) ?_
            refine l_val (v_move rfl) rfl ?_
            refine l_gY rfl rfl rfl (decide_eq_false hg2) ?_
            refine l_eff (e_call (vs := [.agg (flat ks).toArray, .bool first, .slice p113 c2.length c113]) (by rw [hc2l]; rfl) (opens_spec hG ks hk first c2 p113 b113 o113 c113 _ hs113 inferInstance (by omega) (by omega) (by omega))) rfl ?_
            rintro _ _ ⟨rfl, rfl⟩
            refine l_val (v_pickN (decide_eq_false hg2) rfl rfl) rfl ?_
            refine l_val (v_assign rfl) rfl ?_
            refine l_nil ?_
            refine a_normal ?_
            refine w_seq ?_
            refine w_region rfl ?_
            refine l_val (v_move rfl) rfl ?_
            refine l_val (v_move rfl) rfl ?_
            refine l_gY rfl rfl rfl rfl ?_
            refine l_val (v_move rfl) rfl ?_
            refine l_val (v_pickY rfl rfl rfl) rfl ?_
            refine l_val (v_move rfl) rfl ?_
            refine l_gY rfl rfl rfl rfl ?_
            refine l_val (v_move rfl) rfl ?_
            refine l_val (v_pickY rfl rfl rfl) rfl ?_
            refine l_val (v_assign rfl) rfl ?_
            refine l_nil ?_
            refine a_normal ?_
            refine w_ret ?_
            exact a_ret (ts := [10]) rfl rfl rfl
end Go.Proofs.YtgfdlpcdjklcoaaDoor
