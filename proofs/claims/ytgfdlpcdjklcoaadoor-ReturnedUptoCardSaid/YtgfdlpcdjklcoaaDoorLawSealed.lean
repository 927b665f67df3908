/- The law Sealed: every call answers as the document's; no condition. -/
import Derived.Test.YtgfdlpcdjklcoaaDoorErr5
namespace Go.Proofs.YtgfdlpcdjklcoaaDoor
open Go Go.RowKit
set_option linter.unusedVariables false
set_option maxRecDepth 20000
variable {B : World}
theorem rda_nil (H : HP) (b o : Nat) : RdA B H b o ([] : List UInt8) := ⟨fun i f v e hi => by simp at hi⟩
theorem punseal_any (hG : B.cell? ⟨0, 0, none⟩ = some (rty 55)) (ks : List UInt8) (hk : ks.length = 16) (first : Bool) (xs : List UInt8) (p : Option Addr) (b o c : Nat) (H : HP) (hs : Sl p b o xs.length c) (hr : RdA B H b o xs) (hx : xs.length < 90000000) :
    Fn Tryd.prog B 11 [.agg (flat ks).toArray, .bool first, .slice p xs.length c] H (fun v H' => ∃ (m : UInt64) (q : Option Addr) (b' o' c' : Nat) (ys : List UInt8) (k : Nat) (Hx : HP),
      v = .tuple #[u64 m, .slice q ys.length c', .int .i64 k] ∧ Sl q b' o' ys.length c' ∧ RdA B Hx b' o' ys ∧ H' = Hx * H ∧ (ys = [] → q = none ∧ c' = 0) ∧
      ((openL ks (sideB first) xs = none ∧ m = 0 ∧ ys = [] ∧ k = 4) ∨ (openL ks (sideB first) xs = some (m, ys) ∧ k = 0))) := by
  cases hop : openL ks (sideB first) xs with
  | none =>
    refine (punseal_none hG ks hk first xs p b o c H hs hr hx hop).mono ?_
    rintro v H' ⟨rfl, rfl⟩
    exact ⟨0, none, 0, 0, 0, [], 4, HP.emp, rfl, ⟨.inl rfl, Nat.le_refl _⟩, rda_nil _ _ _, (HP.emp_mul _).symm, fun _ => ⟨rfl, rfl⟩, .inl ⟨rfl, rfl, rfl, rfl⟩⟩
  | some z =>
    obtain ⟨m, ys⟩ := z
    refine (punseal_some ks hk first xs m ys p b o c H hs hr hx hop).mono ?_
    rintro v H' ⟨sv, rfl, ⟨rfl, rfl, rfl⟩ | ⟨hne, q, b', o', c', s', rfl, h1, h2, rfl⟩⟩
    · exact ⟨m, none, 0, 0, 0, [], 0, HP.emp, rfl, ⟨.inl rfl, Nat.le_refl _⟩, rda_nil _ _ _, (HP.emp_mul _).symm, fun _ => ⟨rfl, rfl⟩, .inr ⟨rfl, rfl⟩⟩
    · exact ⟨m, q, b', o', c', ys, 0, arr b' o' ys s', rfl, h1, inferInstance, rfl, fun h => absurd h hne, .inr ⟨rfl, rfl⟩⟩
theorem runseal_any (ks : List UInt8) (hk : ks.length = 16) (sd : Nat) (xs : List UInt8) (p : Option Addr) (b o c : Nat) (H : HP) (hs : Sl p b o xs.length c) (hr : RdA B H b o xs) (hx : xs.length < 90000000) :
    Fn Tryd.prog B 12 [.agg (flat ks).toArray, iN sd, .slice p xs.length c] H (fun v H' => ∃ (m : UInt64) (q : Option Addr) (b' o' c' : Nat) (ys : List UInt8) (ok : Bool) (Hx : HP),
      v = .tuple #[u64 m, .slice q ys.length c', .bool ok] ∧ Sl q b' o' ys.length c' ∧ RdA B Hx b' o' ys ∧ H' = Hx * H ∧
      ((openL ks (UInt8.ofNat sd) xs = none ∧ m = 0 ∧ ys = [] ∧ ok = false) ∨ (openL ks (UInt8.ofNat sd) xs = some (m, ys) ∧ ok = true))) := by
  refine (runseal_spec ks hk sd xs p b o c H hs hr hx).mono ?_
  cases hop : openL ks (UInt8.ofNat sd) xs with
  | none =>
    rintro v H' ⟨rfl, rfl⟩
    exact ⟨0, none, 0, 0, 0, [], false, HP.emp, rfl, ⟨.inl rfl, Nat.le_refl _⟩, rda_nil _ _ _, (HP.emp_mul _).symm, .inl ⟨rfl, rfl, rfl, rfl⟩⟩
  | some z =>
    obtain ⟨m, ys⟩ := z
    rintro v H' ⟨sv, rfl, q, b', o', c', s', rfl, h1, h2, rfl⟩
    exact ⟨m, q, b', o', c', ys, true, arr b' o' ys s', rfl, h1, inferInstance, rfl, .inr ⟨rfl, rfl⟩⟩
def sdN (first : Bool) : Nat := bif first then 0 else 1
theorem sdN_side (first : Bool) : UInt8.ofNat (sdN first) = sideB first := by cases first <;> rfl
theorem sdN_not (first : Bool) : 1 - sdN first = sdN (!first) := by cases first <;> rfl
theorem sealL_length (ks : List UInt8) (side : UInt8) (n : UInt64) (xs : List UInt8) : (sealL ks side n xs).length = 16 + xs.length := by
  rw [sealL, List.length_append, List.length_append, maskL_length]
  have h1 : (bigL n).length = 8 := rfl
  have h2 : (tagL ks side n (maskL ks side n xs)).length = 8 := rfl
  omega

theorem a_retDE {P : Program} {n : Nat} {E : Env} {H : HP} {r : Option Nat} {fn : Func} {Post : Value → HP → Prop} {ts : List Nat} {vs : List Value} (H' : HP) (hE : Ent B H H') (hr : fn.results = (ts.map ResultVar.tmp).toArray) (hv : evs E (ts.map Operand.tmp) = some vs)
    (hp : Post (retOf vs) H') : AtQ B (FPost P B fn Post) .ret n E ⟨[], r⟩ H := a_retD H' hr hv hp
theorem v_shlB {P : Program} {n : Nat} {E : Env} {H : HP} {d : Option Tmp} {T T' ty : TypeId} {pos : String} {af : Array Edge} {g : Option (Nat × Bool)} {x y : Operand} {a k : Nat} {ik : IntKind}
    (hx : ev E x = some (.int .u8 a)) (hy : ev E y = some (.int ik k)) (h : k ≤ 8) : Val P B n ⟨d, .binOp .shl T x y T', ty, pos, af, g⟩ E H (u8 (UInt8.ofNat (a * 2 ^ k))) := by
  have := v_shl (P := P) (B := B) (n := n) (H := H) (d := d) (T := T) (T' := T') (ty := ty) (pos := pos) (af := af) (g := g) hx hy rfl
  rw [show min k IntKind.u8.bits = k from Nat.min_eq_left h] at this
  rw [show u8 (UInt8.ofNat (a * 2 ^ k)) = .int .u8 ((a * 2 ^ k) % 2 ^ IntKind.u8.bits : Nat) by rw [u8, UInt8.toNat_ofNat']; rfl]
  exact this

theorem sealed_spec (hG : B.cell? ⟨0, 0, none⟩ = some (rty 55)) (ks : List UInt8) (hk : ks.length = 16) (first : Bool) (number : UInt64) (s : ByteArray) (k : Int) (hkr : -9223372036854775808 ≤ k ∧ k < 9223372036854775808) (H : HP) :
    Fn Tryd.prog B 3 [.agg (flat ks).toArray, .bool first, u64 number, .string s, .int .i64 k] H (fun v _ => v = .bool true) := by
  have hsz : s.data.toList.length = s.size := by rw [Array.length_toList]; rfl
  have hks := flat16 hk
  refine fn_intro Tryd.func3 rfl rfl rfl ?_
  refine w_seq ?_
  refine w_region rfl ?_
  refine l_eff (e_box (l := flat ks) rfl rfl) rfl ?_
  rintro _ _ ⟨b5, rfl, rfl⟩
  refine l_val (v_assign rfl) rfl ?_
  refine l_nil ?_
  refine a_normal ?_
  refine w_seq ?_
  refine w_seq ?_
  refine w_region rfl ?_
  refine l_val (v_move rfl) rfl ?_
  refine l_val (v_lenStr rfl) rfl ?_
  refine l_val (v_gtr (j := 2000) rfl rfl) rfl ?_
  refine l_nil ?_
  refine a_normal ?_
  refine w_condD rfl (fun hc => ?_) (fun hc => ?_)
  · skip
    refine w_seq ?_
    refine w_region rfl ?_
    refine l_val (v_assign rfl) rfl ?_
    refine l_nil ?_
    refine a_normal ?_
    refine w_ret ?_
    refine a_tret ?_
    exact a_retDE (ts := [10]) HP.emp (Ent.emp _ _) rfl rfl (by
        first
        | rfl
        | (rcases h137 with ⟨e1, rfl, rfl, rfl⟩ | ⟨e1, rfl⟩ <;> rcases h146 with ⟨e2, rfl, rfl, rfl⟩ | ⟨e2, rfl⟩ <;> first | rfl | (rw [e1] at e2; cases e2)))
  · skip
    refine w_skip ?_
    refine a_normal ?_
    refine w_seq ?_
    refine w_region rfl ?_
    refine l_val (v_loadA rfl hks) rfl ?_
    refine l_val (v_move rfl) rfl ?_
    refine l_eff (e_str2bytes rfl) rfl ?_
    rintro _ _ ⟨p28, b28, o28, c28, s28, rfl, hs28, hc28, rfl⟩
    refine l_eff (e_call rfl (thash_spec ks s.data.toList p28 b28 o28 c28 _ hk hs28 inferInstance (by rw [hsz]; omega))) rfl ?_
    rintro _ _ ⟨rfl, rfl⟩
    refine l_val (v_assign rfl) rfl ?_
    refine l_nil ?_
    refine a_normal ?_
    refine w_seq ?_
    refine w_region rfl ?_
    refine l_val (v_loadA rfl hks) rfl ?_
    refine l_val (v_move rfl) rfl ?_
    refine l_eff (e_str2bytes rfl) rfl ?_
    rintro _ _ ⟨p32, b32, o32, c32, s32, rfl, hs32, hc32, rfl⟩
    refine l_eff (e_call rfl (rhash_spec ks s.data.toList p32 b32 o32 c32 _ hk hs32 inferInstance (by rw [hsz]; omega))) rfl ?_
    rintro _ _ ⟨rfl, rfl⟩
    refine l_val (v_assign rfl) rfl ?_
    refine l_ent (HP.pts b5 0 (flat ks) * H) ?_
    refine l_nil ?_
    refine a_normal ?_
    refine w_seq ?_
    refine w_region rfl ?_
    refine l_val (v_assign (v := .int .i64 (1 : Nat)) rfl) rfl ?_
    refine l_nil ?_
    refine a_normal ?_
    refine w_seq ?_
    refine w_seq ?_
    refine w_region rfl ?_
    refine l_val (v_move rfl) rfl ?_
    refine l_nil ?_
    refine a_normal ?_
    refine w_cut (α := Unit) (fun _ => [(0, .agg (flat ks).toArray), (1, .bool first), (2, u64 number), (3, .string s), (4, .int .i64 k), (5, ptr b5 0), (11, u64 (sip ks s.data.toList)), (12, u64 (sip ks s.data.toList)), (13, iN (sdN first))]) (fun _ => HP.pts b5 0 (flat ks) * H) (fun _ => True) ?_ ?_
    · skip
      refine w_cond rfl (fun hc => ?_) (fun hc => ?_)
      · skip
        refine w_region rfl ?_
        refine l_val (v_assign (v := .int .i64 (0 : Nat)) rfl) rfl ?_
        refine l_nil ?_
        exact a_cut () trivial (by subst hc; repeat (first | exact .nil | refine .cons rfl ?_)) rfl
      · skip
        refine w_skip ?_
        exact a_cut () trivial (by subst hc; repeat (first | exact .nil | refine .cons rfl ?_)) rfl
    · rintro z hz
      refine a_normal ?_
      refine w_seq ?_
      refine w_region rfl ?_
      refine l_val (v_loadA rfl hks) rfl ?_
      refine l_val (v_move rfl) rfl ?_
      refine l_val (v_move rfl) rfl ?_
      refine l_val (v_move rfl) rfl ?_
      refine l_eff (e_str2bytes rfl) rfl ?_
      rintro _ _ ⟨p39, b39, o39, c39, s39, rfl, hs39, hc39, rfl⟩
      refine l_eff (e_call rfl (pseal_spec ks hk first number s.data.toList p39 b39 o39 c39 _ hs39 inferInstance (by rw [hsz]; omega))) rfl ?_
      rintro _ _ ⟨p40, b40, o40, c40, s40, rfl, hs40, hc40, rfl⟩
      refine l_val (v_assign rfl) rfl ?_
      refine l_nil ?_
      refine a_normal ?_
      refine w_seq ?_
      refine w_region rfl ?_
      refine l_val (v_loadA rfl hks) rfl ?_
      refine l_val (v_move rfl) rfl ?_
      refine l_val (v_move rfl) rfl ?_
      refine l_val (v_move rfl) rfl ?_
      refine l_eff (e_str2bytes rfl) rfl ?_
      rintro _ _ ⟨p45, b45, o45, c45, s45, rfl, hs45, hc45, rfl⟩
      refine l_eff (e_call rfl (rseal_spec ks hk (sdN first) number s.data.toList p45 b45 o45 c45 _ hs45 inferInstance (by rw [hsz]; omega))) rfl ?_
      rintro _ _ ⟨p46, b46, o46, c46, s46, rfl, hs46, hc46, rfl⟩
      rw [sdN_side] at hs46 hc46 ⊢
      refine l_val (v_assign rfl) rfl ?_
      refine l_nil ?_
      refine a_normal ?_
      refine w_seq ?_
      refine w_seq ?_
      refine w_region rfl ?_
      refine l_val (v_move rfl) rfl ?_
      refine l_val (v_move rfl) rfl ?_
      refine l_val (v_neq rfl rfl) rfl ?_
      refine l_val (v_move rfl) rfl ?_
      refine l_case 50 rfl (fun hg1 => ?_) (fun hg1 => ?_)
      · skip
        exact absurd rfl hg1
      · skip
        refine l_gY rfl rfl rfl (decide_eq_false hg1) ?_
        refine l_val (v_move rfl) rfl ?_
        refine l_gY rfl rfl rfl (decide_eq_false hg1) ?_
        refine l_val (v_bytes2str rfl hs40 inferInstance) rfl ?_
        refine l_gY rfl rfl rfl (decide_eq_false hg1) ?_
        refine l_val (v_move rfl) rfl ?_
        refine l_gY rfl rfl rfl (decide_eq_false hg1) ?_
        refine l_val (v_bytes2str rfl hs46 inferInstance) rfl ?_
        refine l_gY rfl rfl rfl (decide_eq_false hg1) ?_
        refine l_val (v_neS rfl rfl) rfl ?_
        refine l_val (v_pickN (decide_eq_false hg1) rfl rfl) rfl ?_
        refine l_nil ?_
        refine a_normal ?_
        refine w_condD rfl (fun hc => ?_) (fun hc => ?_)
        · exact absurd rfl hc
        have hql := sealL_length ks (sideB first) number s.data.toList
        rw [hsz] at hql
        generalize hqs : sealL ks (sideB first) number s.data.toList = qs at *
        refine w_ent (arr b46 o46 qs s46 * (HP.pts b5 0 (flat ks) * H)) ?_
        refine w_skip ?_
        refine a_normal ?_
        refine w_seq ?_
        refine w_region rfl ?_
        refine l_val (v_move rfl) rfl ?_
        refine l_val (v_move rfl) rfl ?_
        refine l_val (v_lenS rfl) rfl ?_
        refine l_val (v_mulI (i := 9) (j := qs.length) rfl rfl (by omega)) rfl ?_
        refine l_eff (e_call rfl (pick_spec k hkr (9 * qs.length) (by omega) _)) rfl ?_
        rintro _ _ ⟨rfl, rfl⟩
        refine l_val (v_assign rfl) rfl ?_
        refine l_nil ?_
        refine a_normal ?_
        refine w_seq ?_
        refine w_seq ?_
        refine w_region rfl ?_
        refine l_val (v_move rfl) rfl ?_
        refine l_val (v_move rfl) rfl ?_
        refine l_val (v_lenS rfl) rfl ?_
        refine l_val (v_mulI (i := 8) (j := qs.length) rfl rfl (by omega)) rfl ?_
        refine l_val (v_lss rfl rfl) rfl ?_
        refine l_nil ?_
        refine a_normal ?_
        have hpk : pickZ k (9 * qs.length) < 9 * qs.length := Nat.mod_lt _ (by omega)
        refine w_cut (α := List UInt8) (fun zs => [(0, .agg (flat ks).toArray), (1, .bool first), (2, u64 number), (3, .string s), (4, .int .i64 k), (5, ptr b5 0), (13, iN (sdN first)), (15, .slice p46 zs.length c46)]) (fun zs => arr b46 o46 zs s46 * (HP.pts b5 0 (flat ks) * H)) (fun zs => zs.length = qs.length) ?_ ?_
        · skip
          refine w_condD rfl (fun hc => ?_) (fun hc => ?_)
          · skip
            refine w_region rfl ?_
            refine l_val (v_move rfl) rfl ?_
            refine l_val (v_move rfl) rfl ?_
            refine l_val (v_quoI (j := 8) rfl rfl (by omega)) rfl ?_
            refine l_val (v_move rfl) rfl ?_
            refine l_val (v_move rfl) rfl ?_
            refine l_val (v_quoI (j := 8) rfl rfl (by omega)) rfl ?_
            refine l_val (v_indexAddrR rfl rfl (b := b46) (o := o46) hs46 (by omega)) rfl ?_
            refine l_val (v_load rfl (by first | trivial | omega)) rfl ?_
            refine l_val (v_move rfl) rfl ?_
            refine l_val (v_remI (j := 8) rfl rfl (by omega)) rfl ?_
            refine l_val (v_conv rfl (fit_u64 (by omega))) rfl ?_
            refine l_val (v_shlB rfl rfl (by omega)) rfl ?_
            refine l_val (v_xorB rfl rfl) rfl ?_
            refine l_val (v_indexAddrR rfl rfl (b := b46) (o := o46) hs46 (by omega)) rfl ?_
            refine l_eff0 (e_store (v := u8 _) rfl rfl rfl (by omega)) ?_
            rintro _ _ ⟨rfl, rfl⟩
            refine l_nil ?_
            first | exact a_cut (qs.set (pickZ k (9 * qs.length) / 8) _) (by simp) (by simp only [List.length_set]; repeat (first | exact .nil | refine .cons rfl ?_)) rfl | exact a_cut qs rfl (by repeat (first | exact .nil | refine .cons rfl ?_)) rfl
          · skip
            refine w_skip ?_
            first | exact a_cut (qs.set (pickZ k (9 * qs.length) / 8) _) (by simp) (by simp only [List.length_set]; repeat (first | exact .nil | refine .cons rfl ?_)) rfl | exact a_cut qs rfl (by repeat (first | exact .nil | refine .cons rfl ?_)) rfl
        · intro zs hzs
          rw [← hzs] at hs46 hql
          clear hs40 hc40 hc46 hqs hpk
          refine a_normal ?_
          refine w_seq ?_
          refine w_region rfl ?_
          refine l_val (v_loadA rfl hks) rfl ?_
          refine l_val (v_move rfl) rfl ?_
          refine l_val (v_move rfl) rfl ?_
          refine l_eff (e_call rfl (punseal_any hG ks hk first zs p46 b46 o46 c46 _ hs46 inferInstance (by omega))) rfl ?_
          rintro _ _ ⟨m85, q85, b85, o85, c85, ys85, k85, X85, rfl, hs85, hr85, rfl, hn85, h85⟩
          refine l_val (v_move rfl) rfl ?_
          refine l_val (v_extract rfl rfl) rfl ?_
          refine l_val (v_extract rfl rfl) rfl ?_
          refine l_val (v_extract rfl rfl) rfl ?_
          refine l_val (v_assign rfl) rfl ?_
          refine l_val (v_assign rfl) rfl ?_
          refine l_val (v_assign rfl) rfl ?_
          refine l_nil ?_
          refine a_normal ?_
          refine w_seq ?_
          refine w_region rfl ?_
          refine l_val (v_loadA rfl hks) rfl ?_
          refine l_val (v_move rfl) rfl ?_
          refine l_val (v_move rfl) rfl ?_
          refine l_eff (e_call rfl (runseal_any ks hk (sdN first) zs p46 b46 o46 c46 _ hs46 inferInstance (by omega))) rfl ?_
          rintro _ _ ⟨m93, q93, b93, o93, c93, ys93, k93, X93, rfl, hs93, hr93, rfl, h93⟩
          rw [sdN_side] at h93
          refine l_val (v_move rfl) rfl ?_
          refine l_val (v_extract rfl rfl) rfl ?_
          refine l_val (v_extract rfl rfl) rfl ?_
          refine l_val (v_extract rfl rfl) rfl ?_
          refine l_val (v_assign rfl) rfl ?_
          refine l_val (v_assign rfl) rfl ?_
          refine l_val (v_assign rfl) rfl ?_
          refine l_nil ?_
          refine a_normal ?_
          refine w_seq ?_
          refine w_seq ?_
          refine w_region rfl ?_
          refine l_val (v_move rfl) rfl ?_
          refine l_val (v_not rfl) rfl ?_
          refine l_nil ?_
          refine a_normal ?_
          refine w_cond rfl (fun hc => ?_) (fun hc => ?_)
          · skip
            rcases h93 with ⟨e93, rfl, rfl, rfl⟩ | ⟨e93, rfl⟩
            rotate_left
            · cases hc
            rcases h85 with ⟨e85, rfl, rfl, rfl⟩ | ⟨e85, rfl⟩
            rotate_left
            · rw [e93] at e85; cases e85
            obtain ⟨rfl, rfl⟩ := hn85 rfl
            refine w_seq ?_
            refine w_region rfl ?_
            refine l_val (v_move rfl) rfl ?_
            refine l_val (v_eql (i := 4) (j := 4) rfl rfl) rfl ?_
            refine l_val (v_move rfl) rfl ?_
            refine l_case 101 rfl (fun hg2 => ?_) (fun hg2 => ?_)
            · skip
              refine l_gY rfl rfl rfl (decide_eq_true hg2) ?_
              refine l_val (v_move rfl) rfl ?_
              refine l_gY rfl rfl rfl (decide_eq_true hg2) ?_
              refine l_val (v_eql (i := 0) (j := 0) rfl rfl) rfl ?_
              refine l_val (v_pickY (decide_eq_true hg2) rfl rfl) rfl ?_
              refine l_val (v_move rfl) rfl ?_
              refine l_case 105 rfl (fun hg3 => ?_) (fun hg3 => ?_)
              · skip
                refine l_gY rfl rfl rfl (decide_eq_true hg3) ?_
                refine l_val (v_move rfl) rfl ?_
                refine l_gY rfl rfl rfl (decide_eq_true hg3) ?_
                refine l_val (v_bin (r := .bool true) rfl rfl (fun w => by kernel_rfl) (fun w => by kernel_rfl)) rfl ?_
                refine l_val (v_pickY (decide_eq_true hg3) rfl rfl) rfl ?_
                refine l_val (v_assign rfl) rfl ?_
                refine l_nil ?_
                refine a_normal ?_
                refine w_ret ?_
                refine a_tret ?_
                exact a_retDE (ts := [10]) HP.emp (Ent.emp _ _) rfl rfl (by
                    first
                    | rfl
                    | (rcases h137 with ⟨e1, rfl, rfl, rfl⟩ | ⟨e1, rfl⟩ <;> rcases h146 with ⟨e2, rfl, rfl, rfl⟩ | ⟨e2, rfl⟩ <;> first | rfl | (rw [e1] at e2; cases e2)))
              · skip
                exact absurd rfl hg3
            · skip
              exact absurd rfl hg2
          · skip
            rcases h93 with ⟨e93, rfl, rfl, rfl⟩ | ⟨e93, rfl⟩
            · cases hc
            rcases h85 with ⟨e85, rfl, rfl, rfl⟩ | ⟨e85, rfl⟩
            · rw [e93] at e85; cases e85
            obtain ⟨rfl, rfl⟩ : m93 = m85 ∧ ys93 = ys85 := by rw [e93] at e85; cases e85; exact ⟨rfl, rfl⟩
            refine w_skip ?_
            refine a_normal ?_
            refine w_seq ?_
            refine w_seq ?_
            refine w_region rfl ?_
            refine l_val (v_move rfl) rfl ?_
            refine l_val (v_neq (i := 0) (j := 0) rfl rfl) rfl ?_
            refine l_val (v_move rfl) rfl ?_
            refine l_case 111 rfl (fun hg4 => ?_) (fun hg4 => ?_)
            · skip
              exact absurd rfl hg4
            · skip
              refine l_gY rfl rfl rfl (decide_eq_false hg4) ?_
              refine l_val (v_move rfl) rfl ?_
              refine l_gY rfl rfl rfl (decide_eq_false hg4) ?_
              refine l_val (v_move rfl) rfl ?_
              refine l_gY rfl rfl rfl (decide_eq_false hg4) ?_
              refine l_val (v_neq rfl rfl) rfl ?_
              refine l_val (v_pickN (decide_eq_false hg4) rfl rfl) rfl ?_
              refine l_val (v_move rfl) rfl ?_
              refine l_case 116 rfl (fun hg5 => ?_) (fun hg5 => ?_)
              · skip
                exact absurd rfl hg5
              · skip
                refine l_gY rfl rfl rfl (decide_eq_false hg5) ?_
                refine l_val (v_move rfl) rfl ?_
                refine l_gY rfl rfl rfl (decide_eq_false hg5) ?_
                refine l_val (v_bytes2str (xs := ys93) rfl hs85 inferInstance) rfl ?_
                refine l_gY rfl rfl rfl (decide_eq_false hg5) ?_
                refine l_val (v_move rfl) rfl ?_
                refine l_gY rfl rfl rfl (decide_eq_false hg5) ?_
                refine l_val (v_bytes2str (xs := ys93) rfl hs93 inferInstance) rfl ?_
                refine l_gY rfl rfl rfl (decide_eq_false hg5) ?_
                refine l_val (v_neS rfl rfl) rfl ?_
                refine l_val (v_pickN (decide_eq_false hg5) rfl rfl) rfl ?_
                refine l_val (v_move rfl) rfl ?_
                refine l_case 123 rfl (fun hg6 => ?_) (fun hg6 => ?_)
                · skip
                  exact absurd rfl hg6
                · skip
                  refine l_gY rfl rfl rfl (decide_eq_false hg6) ?_
                  refine l_val (v_move rfl) rfl ?_
                  refine l_gY rfl rfl rfl (decide_eq_false hg6) ?_
                  refine l_val (v_lenS rfl) rfl ?_
                  refine l_gY rfl rfl rfl (decide_eq_false hg6) ?_
                  refine l_val (v_eql (j := 0) rfl rfl) rfl ?_
                  refine l_gY rfl rfl rfl (decide_eq_false hg6) ?_
                  refine l_val (v_move rfl) rfl ?_
                  refine l_case 127 rfl (fun hg7 => ?_) (fun hg7 => ?_)
                  · skip
                    obtain rfl := List.length_eq_zero_iff.1 hg7
                    obtain ⟨rfl, rfl⟩ := hn85 rfl
                    refine l_gY rfl rfl rfl (decide_eq_true hg7) ?_
                    refine l_val (v_move rfl) rfl ?_
                    refine l_gY rfl rfl rfl (decide_eq_true hg7) ?_
                    refine l_val (v_bin (r := .bool false) rfl rfl (fun w => by kernel_rfl) (fun w => by kernel_rfl)) rfl ?_
                    refine l_gY rfl rfl rfl (decide_eq_false hg6) ?_
                    refine l_val (v_pickY (decide_eq_true hg7) rfl rfl) rfl ?_
                    refine l_val (v_pickN (decide_eq_false hg6) rfl rfl) rfl ?_
                    refine l_nil ?_
                    refine a_normal ?_
                    refine w_cond rfl (fun hc => ?_) (fun hc => ?_)
                    · cases hc
                    refine w_skip ?_
                    refine a_normal ?_
                    refine w_seq ?_
                    refine w_region rfl ?_
                    refine l_val (v_loadA rfl hks) rfl ?_
                    refine l_val (v_move rfl) rfl ?_
                    refine l_val (v_not rfl) rfl ?_
                    refine l_val (v_move rfl) rfl ?_
                    refine l_eff (e_call rfl (punseal_any hG ks hk (!first) zs p46 b46 o46 c46 _ hs46 inferInstance (by omega))) rfl ?_
                    rintro _ _ ⟨m137, q137, b137, o137, c137, ys137, k137, X137, rfl, hs137, hr137, rfl, hn137, h137⟩
                    refine l_val (v_move rfl) rfl ?_
                    refine l_val (v_extract rfl rfl) rfl ?_
                    refine l_val (v_extract rfl rfl) rfl ?_
                    refine l_val (v_extract rfl rfl) rfl ?_
                    refine l_val (v_assign rfl) rfl ?_
                    refine l_nil ?_
                    refine a_normal ?_
                    refine w_seq ?_
                    refine w_region rfl ?_
                    refine l_val (v_loadA rfl hks) rfl ?_
                    refine l_val (v_move rfl) rfl ?_
                    refine l_val (v_subI (i := 1) (j := sdN first) rfl rfl (by unfold sdN; cases first <;> decide)) rfl ?_
                    refine l_val (v_move rfl) rfl ?_
                    refine l_eff (e_call rfl (runseal_any ks hk (1 - sdN first) zs p46 b46 o46 c46 _ hs46 inferInstance (by omega))) rfl ?_
                    rintro _ _ ⟨m146, q146, b146, o146, c146, ys146, k146, X146, rfl, hs146, hr146, rfl, h146⟩
                    rw [sdN_not, sdN_side] at h146
                    refine l_val (v_move rfl) rfl ?_
                    refine l_val (v_extract rfl rfl) rfl ?_
                    refine l_val (v_extract rfl rfl) rfl ?_
                    refine l_val (v_extract rfl rfl) rfl ?_
                    refine l_val (v_assign rfl) rfl ?_
                    refine l_nil ?_
                    refine a_normal ?_
                    refine w_seq ?_
                    refine w_region rfl ?_
                    refine l_val (v_move rfl) rfl ?_
                    refine l_val (v_eql (j := 0) rfl rfl) rfl ?_
                    refine l_val (v_move rfl) rfl ?_
                    refine l_val (v_eqB rfl rfl) rfl ?_
                    refine l_val (v_assign rfl) rfl ?_
                    refine l_nil ?_
                    refine a_normal ?_
                    refine w_ret ?_
                    exact a_retDE (ts := [10]) HP.emp (Ent.emp _ _) rfl rfl (by
                        first
                        | rfl
                        | (rcases h137 with ⟨e1, rfl, rfl, rfl⟩ | ⟨e1, rfl⟩ <;> rcases h146 with ⟨e2, rfl, rfl, rfl⟩ | ⟨e2, rfl⟩ <;> first | rfl | (rw [e1] at e2; cases e2)))
                  · skip
                    refine l_gN rfl rfl rfl (decide_eq_false hg7) ?_
                    refine l_gN rfl rfl rfl (decide_eq_false hg7) ?_
                    refine l_gY rfl rfl rfl (decide_eq_false hg6) ?_
                    refine l_val (v_pickN (decide_eq_false hg7) rfl rfl) rfl ?_
                    refine l_val (v_pickN (decide_eq_false hg6) rfl rfl) rfl ?_
                    refine l_nil ?_
                    refine a_normal ?_
                    refine w_condN rfl rfl ?_
                    refine w_skip ?_
                    refine a_normal ?_
                    refine w_seq ?_
                    refine w_region rfl ?_
                    refine l_val (v_loadA rfl hks) rfl ?_
                    refine l_val (v_move rfl) rfl ?_
                    refine l_val (v_not rfl) rfl ?_
                    refine l_val (v_move rfl) rfl ?_
                    refine l_eff (e_call rfl (punseal_any hG ks hk (!first) zs p46 b46 o46 c46 _ hs46 inferInstance (by omega))) rfl ?_
                    rintro _ _ ⟨m137, q137, b137, o137, c137, ys137, k137, X137, rfl, hs137, hr137, rfl, hn137, h137⟩
                    refine l_val (v_move rfl) rfl ?_
                    refine l_val (v_extract rfl rfl) rfl ?_
                    refine l_val (v_extract rfl rfl) rfl ?_
                    refine l_val (v_extract rfl rfl) rfl ?_
                    refine l_val (v_assign rfl) rfl ?_
                    refine l_nil ?_
                    refine a_normal ?_
                    refine w_seq ?_
                    refine w_region rfl ?_
                    refine l_val (v_loadA rfl hks) rfl ?_
                    refine l_val (v_move rfl) rfl ?_
                    refine l_val (v_subI (i := 1) (j := sdN first) rfl rfl (by unfold sdN; cases first <;> decide)) rfl ?_
                    refine l_val (v_move rfl) rfl ?_
                    refine l_eff (e_call rfl (runseal_any ks hk (1 - sdN first) zs p46 b46 o46 c46 _ hs46 inferInstance (by omega))) rfl ?_
                    rintro _ _ ⟨m146, q146, b146, o146, c146, ys146, k146, X146, rfl, hs146, hr146, rfl, h146⟩
                    rw [sdN_not, sdN_side] at h146
                    refine l_val (v_move rfl) rfl ?_
                    refine l_val (v_extract rfl rfl) rfl ?_
                    refine l_val (v_extract rfl rfl) rfl ?_
                    refine l_val (v_extract rfl rfl) rfl ?_
                    refine l_val (v_assign rfl) rfl ?_
                    refine l_nil ?_
                    refine a_normal ?_
                    refine w_seq ?_
                    refine w_region rfl ?_
                    refine l_val (v_move rfl) rfl ?_
                    refine l_val (v_eql (j := 0) rfl rfl) rfl ?_
                    refine l_val (v_move rfl) rfl ?_
                    refine l_val (v_eqB rfl rfl) rfl ?_
                    refine l_val (v_assign rfl) rfl ?_
                    refine l_nil ?_
                    refine a_normal ?_
                    refine w_ret ?_
                    exact a_retDE (ts := [10]) HP.emp (Ent.emp _ _) rfl rfl (by
                        first
                        | rfl
                        | (rcases h137 with ⟨e1, rfl, rfl, rfl⟩ | ⟨e1, rfl⟩ <;> rcases h146 with ⟨e2, rfl, rfl, rfl⟩ | ⟨e2, rfl⟩ <;> first | rfl | (rw [e1] at e2; cases e2)))
end Go.Proofs.YtgfdlpcdjklcoaaDoor
