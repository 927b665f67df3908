/- Contracts of package sealstream, and plain: sealing; no condition. -/
import Derived.Test.YtgfdlpcdjklcoaaDoorSealRef
import Derived.Test.YtgfdlpcdjklcoaaDoorErr
namespace Go.Proofs.YtgfdlpcdjklcoaaDoor
open Go Go.RowKit
set_option linter.unusedVariables false
set_option maxRecDepth 20000
variable {B : World}

theorem thash_spec (ks xs : List UInt8) (p : Option Addr) (b o c : Nat) (H : HP) (hk : ks.length = 16) (hs : Sl p b o xs.length c) (hr : RdA B H b o xs) (hx : xs.length < 100000000) :
    Fn Tryd.prog B 6 [.agg (flat ks).toArray, .slice p xs.length c] H (fun v H' => v = u64 (sip ks xs) ∧ H' = H) := by
  refine fn_intro Tryd.func6 rfl rfl rfl ?_
  refine w_seq ?_
  refine w_region rfl ?_
  refine l_eff (e_box (l := flat ks) rfl rfl) rfl ?_
  rintro _ _ ⟨b2, rfl, rfl⟩
  refine l_val (v_assign (v := .int .u64 (0 : Nat)) rfl) rfl ?_
  refine l_nil ?_
  refine a_normal ?_
  refine w_seq ?_
  refine w_region rfl ?_
  refine l_val (v_loadA rfl (flat16 hk)) rfl ?_
  refine l_val (v_move rfl) rfl ?_
  refine l_eff (e_call rfl (hash_spec ks xs p b o c _ hk hs inferInstance hx)) rfl ?_
  rintro _ _ ⟨rfl, rfl⟩
  refine l_val (v_assign rfl) rfl ?_
  refine l_nil ?_
  refine a_normal ?_
  refine w_ret ?_
  exact a_retD (ts := [4]) H rfl rfl ⟨rfl, rfl⟩

theorem tseal_spec (ks : List UInt8) (hk : ks.length = 16) (first : Bool) (number : UInt64) (xs : List UInt8) (p : Option Addr) (b o c : Nat) (H : HP) (hs : Sl p b o xs.length c) (hr : RdA B H b o xs) (hx : xs.length < 90000000) :
    Fn Tryd.prog B 23 [.agg (flat ks).toArray, .bool first, u64 number, .slice p xs.length c] H (fun v H' => IsSl H (sealL ks (sideB first) number xs) v H') := by
  refine fn_intro Tryd.func23 rfl rfl rfl ?_
  refine w_seq ?_
  refine w_region rfl ?_
  refine l_eff (e_box (l := flat ks) rfl rfl) rfl ?_
  rintro _ _ ⟨b4, rfl, rfl⟩
  refine l_val (v_assign rfl) rfl ?_
  refine l_nil ?_
  refine a_normal ?_
  refine w_seq ?_
  refine w_region rfl ?_
  refine l_val (v_loadA rfl (flat16 hk)) rfl ?_
  refine l_val (v_move rfl) rfl ?_
  refine l_eff (e_call rfl (sealer_spec ks hk first _)) rfl ?_
  rintro _ _ ⟨rfl, rfl⟩
  refine l_val (v_move rfl) rfl ?_
  refine l_val (v_move rfl) rfl ?_
  refine l_eff (e_call rfl (seal_spec ks hk (sideB first) number xs p b o c _ hs inferInstance hx)) rfl ?_
  rintro _ _ ⟨p14, b14, o14, c14, s14, rfl, hs14, hc14, rfl⟩
  refine l_val (v_assign rfl) rfl ?_
  refine l_nil ?_
  refine a_normal ?_
  refine w_ret ?_
  exact a_retD (ts := [8]) (arr b14 o14 (sealL ks (sideB first) number xs) s14 * H) rfl rfl ⟨p14, b14, o14, c14, s14, rfl, hs14, hc14, rfl⟩

theorem scribble_spec (p : Option Addr) (b o c k : Nat) (xs : List UInt8) (s : List Value) (R : HP) (hs : Sl p b o k c) (hx : xs.length = k) (hk : k < 1000000000) :
    Fn Tryd.prog B 24 [.slice p k c] (arr b o xs s * R) (fun _ H' => ∃ ys : List UInt8, ys.length = k ∧ H' = arr b o ys s * R) := by
  refine fn_intro Tryd.func24 rfl rfl rfl ?_
  refine w_seq ?_
  refine w_region rfl ?_
  refine l_val (v_move rfl) rfl ?_
  refine l_val (v_lenS rfl) rfl ?_
  refine l_val (v_move (v := .int .i64 (0 : Nat)) rfl) rfl ?_
  refine l_nil ?_
  refine a_normal ?_
  refine w_block ?_
  refine w_loop (α := Nat × List UInt8) (fun z => [(0, .slice p k c), (4, iN k), (5, iN z.1)]) (fun z => arr b o z.2 s * R) (fun z => z.1 ≤ k ∧ z.2.length = k) (fun z => k - z.1) (0, xs) ⟨Nat.zero_le _, hx⟩ (.cons rfl (.cons rfl (.cons rfl .nil))) rfl ?_
  rintro ⟨j, ys⟩ ⟨hj, hy⟩
  dsimp only at hj hy ⊢
  refine w_seq ?_
  refine w_region rfl ?_
  refine l_val (v_lss rfl rfl) rfl ?_
  refine l_nil ?_
  refine a_normal ?_
  refine w_seq ?_
  refine w_condD rfl (fun hc => ?_) (fun hc => ?_)
  · skip
    refine w_skip ?_
    refine a_normal ?_
    refine w_seq ?_
    refine w_block ?_
    refine w_seq ?_
    refine w_region rfl ?_
    refine l_val (v_move rfl) rfl ?_
    refine l_val (v_assign rfl) rfl ?_
    refine l_nil ?_
    refine a_normal ?_
    refine w_region rfl ?_
    refine l_val (v_move rfl) rfl ?_
    refine l_val (v_move rfl) rfl ?_
    refine l_val (v_indexAddrR rfl rfl (b := b) (o := o) hs hc) rfl ?_
    refine l_eff0 (e_store (v := u8 33) rfl rfl rfl (by omega)) ?_
    rintro _ _ ⟨rfl, rfl⟩
    refine l_nil ?_
    refine a_bnormal ?_
    refine a_normal ?_
    refine w_region rfl ?_
    refine l_val (v_addI (j := 1) rfl rfl (by omega)) rfl ?_
    refine l_val (v_move rfl) rfl ?_
    refine l_nil ?_
    exact a_loop (j + 1, ys.set j 33) ⟨hc, by simp [hy]⟩ (by show k - (j + 1) < k - j; omega) (.cons rfl (.cons rfl (.cons rfl .nil))) rfl
  · skip
    refine w_exit ?_
    refine a_texit ?_
    refine a_texit ?_
    refine a_bexit ?_
    exact a_end (ts := []) rfl rfl ⟨ys, hy, rfl⟩

theorem pseal_spec (ks : List UInt8) (hk : ks.length = 16) (first : Bool) (number : UInt64) (xs : List UInt8) (p : Option Addr) (b o c : Nat) (H : HP) (hs : Sl p b o xs.length c) (hr : RdA B H b o xs) (hx : xs.length < 90000000) :
    Fn Tryd.prog B 8 [.agg (flat ks).toArray, .bool first, u64 number, .slice p xs.length c] H (fun v H' => IsSl H (sealL ks (sideB first) number xs) v H') := by
  refine fn_intro Tryd.func8 rfl rfl rfl ?_
  refine w_seq ?_
  refine w_region rfl ?_
  refine l_eff (e_box (l := flat ks) rfl rfl) rfl ?_
  rintro _ _ ⟨b4, rfl, rfl⟩
  refine l_val (v_assign rfl) rfl ?_
  refine l_nil ?_
  refine a_normal ?_
  refine w_seq ?_
  refine w_region rfl ?_
  refine l_val (v_move rfl) rfl ?_
  refine l_heap (H' := arr 0 0 ([] : List UInt8) [] * (HP.pts b4 0 (flat ks) * H)) (by rw [arr_nil, HP.emp_mul]) ?_
  refine l_eff (e_append (p := none) (c := 0) (ys := xs) (bb := b) (oo := o) rfl ⟨.inl rfl, Nat.le_refl _⟩ rfl rfl hs inferInstance rfl (by simp; omega) (by omega)) rfl ?_
  rintro _ _ ⟨p12, b12, o12, c12, s12, rfl, hs12, hc12, rfl⟩
  rw [List.nil_append] at hs12 hc12 ⊢
  refine l_val (v_assign rfl) rfl ?_
  refine l_nil ?_
  refine a_normal ?_
  refine w_seq ?_
  refine w_region rfl ?_
  refine l_val (v_loadA rfl (flat16 hk)) rfl ?_
  refine l_val (v_move rfl) rfl ?_
  refine l_val (v_move rfl) rfl ?_
  refine l_val (v_move rfl) rfl ?_
  refine l_eff (e_call rfl (tseal_spec ks hk first number xs p12 b12 o12 c12 _ hs12 inferInstance hx)) rfl ?_
  rintro _ _ ⟨p17, b17, o17, c17, s17, rfl, hs17, hc17, rfl⟩
  refine l_val (v_assign rfl) rfl ?_
  refine l_nil ?_
  refine a_normal ?_
  refine w_seq ?_
  refine w_region rfl ?_
  refine l_val (v_move rfl) rfl ?_
  refine l_heap (HP.left_comm _ _ _) ?_
  refine l_eff (e_call rfl (scribble_spec p12 b12 o12 c12 xs.length xs s12 _ hs12 rfl (by omega))) rfl ?_
  rintro _ _ ⟨ys, hys, rfl⟩
  refine l_nil ?_
  refine a_normal ?_
  refine w_seq ?_
  refine w_region rfl ?_
  refine l_val (v_move rfl) rfl ?_
  refine l_val (v_assign rfl) rfl ?_
  refine l_nil ?_
  refine a_normal ?_
  refine w_ret ?_
  exact a_retD (ts := [8]) (arr b17 o17 (sealL ks (sideB first) number xs) s17 * H) rfl rfl ⟨p17, b17, o17, c17, s17, rfl, hs17, hc17, rfl⟩

theorem open_none {ks : List UInt8} (hk : ks.length = 16) {side : UInt8} {xs : List UInt8} (p : Option Addr) (b o c : Nat) (H : HP) (hs : Sl p b o xs.length c) (hr : RdA B H b o xs) (hx : xs.length < 90000000) (hop : openL ks side xs = none) :
    Fn Tryd.prog B 44 [.agg (flat ks ++ [u8 side]).toArray, .slice p xs.length c] H (fun v H' => v = .tuple #[u64 0, .slice none 0 0, .bool false] ∧ H' = H) := by
  have h := open_spec ks hk side xs p b o c H hs hr hx
  rw [hop] at h; exact h
theorem open_some {ks : List UInt8} (hk : ks.length = 16) {side : UInt8} {xs : List UInt8} {n : UInt64} {ys : List UInt8} (p : Option Addr) (b o c : Nat) (H : HP) (hs : Sl p b o xs.length c) (hr : RdA B H b o xs) (hx : xs.length < 90000000) (hop : openL ks side xs = some (n, ys)) :
    Fn Tryd.prog B 44 [.agg (flat ks ++ [u8 side]).toArray, .slice p xs.length c] H (fun v H' => ∃ q b' o' c' s', v = .tuple #[u64 n, .slice q ys.length c', .bool true] ∧ Sl q b' o' ys.length c' ∧ ys.length * 1 + s'.length = c' * 1 ∧ H' = arr b' o' ys s' * H) := by
  have h := open_spec ks hk side xs p b o c H hs hr hx
  rw [hop] at h
  exact h.mono (by rintro v H' ⟨sv, rfl, q, b', o', c', s', rfl, h1, h2, rfl⟩; exact ⟨q, b', o', c', s', rfl, h1, h2, rfl⟩)

theorem tunseal_none (ks : List UInt8) (hk : ks.length = 16) (first : Bool) (xs : List UInt8) (p : Option Addr) (b o c : Nat) (H : HP) (hs : Sl p b o xs.length c) (hr : RdA B H b o xs) (hx : xs.length < 90000000) (hop : openL ks (sideB first) xs = none) :
    Fn Tryd.prog B 28 [.agg (flat ks).toArray, .bool first, .slice p xs.length c] H (fun v H' => v = .tuple #[u64 0, .slice none 0 0, .iface 31 (.int .i64 4)] ∧ H' = H) := by
  refine fn_intro Tryd.func28 rfl rfl rfl ?_
  refine w_seq ?_
  refine w_region rfl ?_
  refine l_eff (e_box (l := flat ks) rfl rfl) rfl ?_
  rintro _ _ ⟨b3, rfl, rfl⟩
  refine l_val (v_assign (v := .int .u64 (0 : Nat)) rfl) rfl ?_
  refine l_val (v_assign rfl) rfl ?_
  refine l_val (v_assign rfl) rfl ?_
  refine l_nil ?_
  refine a_normal ?_
  refine w_seq ?_
  refine w_region rfl ?_
  refine l_val (v_loadA rfl (flat16 hk)) rfl ?_
  refine l_val (v_move rfl) rfl ?_
  refine l_eff (e_call rfl (sealer_spec ks hk first _)) rfl ?_
  rintro _ _ ⟨rfl, rfl⟩
  refine l_val (v_move rfl) rfl ?_
  refine l_eff (e_call rfl (open_none hk p b o c _ hs inferInstance hx hop)) rfl ?_
  rintro _ _ ⟨rfl, rfl⟩
  refine l_val (v_move rfl) rfl ?_
  refine l_val (v_extract rfl rfl) rfl ?_
  refine l_val (v_extract rfl rfl) rfl ?_
  refine l_val (v_extract rfl rfl) rfl ?_
  refine l_val (v_assign rfl) rfl ?_
  refine l_val (v_assign rfl) rfl ?_
  refine l_val (v_assign rfl) rfl ?_
  refine l_nil ?_
  refine a_normal ?_
  refine w_seq ?_
  refine w_seq ?_
  refine w_region rfl ?_
  refine l_val (v_move rfl) rfl ?_
  refine l_val (v_not rfl) rfl ?_
  refine l_nil ?_
  refine a_normal ?_
  refine w_cond rfl (fun hc => ?_) (fun hc => ?_)
  rotate_left
  · cases hc
  refine w_seq ?_
  refine w_region rfl ?_
  refine l_val (v_makeIface (by kernel_rfl) rfl) rfl ?_
  refine l_val (v_assign (v := .int .u64 (0 : Nat)) rfl) rfl ?_
  refine l_val (v_assign rfl) rfl ?_
  refine l_val (v_assign rfl) rfl ?_
  refine l_nil ?_
  refine a_normal ?_
  refine w_ret ?_
  refine a_tret ?_
  exact a_retD (ts := [6, 7, 8]) H rfl rfl ⟨rfl, rfl⟩

theorem tunseal_some (ks : List UInt8) (hk : ks.length = 16) (first : Bool) (xs : List UInt8) (n : UInt64) (ys : List UInt8) (p : Option Addr) (b o c : Nat) (H : HP) (hs : Sl p b o xs.length c) (hr : RdA B H b o xs) (hx : xs.length < 90000000) (hop : openL ks (sideB first) xs = some (n, ys)) :
    Fn Tryd.prog B 28 [.agg (flat ks).toArray, .bool first, .slice p xs.length c] H (fun v H' => ∃ sv, v = .tuple #[u64 n, sv, .nilIface] ∧ ((ys = [] ∧ sv = .slice none 0 0 ∧ H' = H) ∨ (ys ≠ [] ∧ IsSl H ys sv H'))) := by
  refine fn_intro Tryd.func28 rfl rfl rfl ?_
  refine w_seq ?_
  refine w_region rfl ?_
  refine l_eff (e_box (l := flat ks) rfl rfl) rfl ?_
  rintro _ _ ⟨b3, rfl, rfl⟩
  refine l_val (v_assign (v := .int .u64 (0 : Nat)) rfl) rfl ?_
  refine l_val (v_assign rfl) rfl ?_
  refine l_val (v_assign rfl) rfl ?_
  refine l_nil ?_
  refine a_normal ?_
  refine w_seq ?_
  refine w_region rfl ?_
  refine l_val (v_loadA rfl (flat16 hk)) rfl ?_
  refine l_val (v_move rfl) rfl ?_
  refine l_eff (e_call rfl (sealer_spec ks hk first _)) rfl ?_
  rintro _ _ ⟨rfl, rfl⟩
  refine l_val (v_move rfl) rfl ?_
  refine l_eff (e_call rfl (open_some hk p b o c _ hs inferInstance hx hop)) rfl ?_
  rintro _ _ ⟨q, b', o', c', s', rfl, hq1, hq2, rfl⟩
  refine l_val (v_move rfl) rfl ?_
  refine l_val (v_extract rfl rfl) rfl ?_
  refine l_val (v_extract rfl rfl) rfl ?_
  refine l_val (v_extract rfl rfl) rfl ?_
  refine l_val (v_assign rfl) rfl ?_
  refine l_val (v_assign rfl) rfl ?_
  refine l_val (v_assign rfl) rfl ?_
  refine l_nil ?_
  refine a_normal ?_
  refine w_seq ?_
  refine w_seq ?_
  refine w_region rfl ?_
  refine l_val (v_move rfl) rfl ?_
  refine l_val (v_not rfl) rfl ?_
  refine l_nil ?_
  refine a_normal ?_
  refine w_cond rfl (fun hc => ?_) (fun hc => ?_)
  · cases hc
  refine w_skip ?_
  refine a_normal ?_
  refine w_seq ?_
  refine w_seq ?_
  refine w_region rfl ?_
  refine l_val (v_move rfl) rfl ?_
  refine l_val (v_lenS rfl) rfl ?_
  refine l_val (v_eql (j := 0) rfl rfl) rfl ?_
  refine l_nil ?_
  refine a_normal ?_
  refine w_condD rfl (fun hc => ?_) (fun hc => ?_)
  · skip
    refine w_region rfl ?_
    refine l_val (v_assign rfl) rfl ?_
    refine l_nil ?_
    refine a_normal ?_
    refine w_seq ?_
    refine w_region rfl ?_
    refine l_val (v_move rfl) rfl ?_
    refine l_val (v_move rfl) rfl ?_
    refine l_val (v_assign rfl) rfl ?_
    refine l_val (v_assign rfl) rfl ?_
    refine l_val (v_assign rfl) rfl ?_
    refine l_nil ?_
    refine a_normal ?_
    refine w_ret ?_
    exact a_retD (ts := [6, 7, 8]) H rfl rfl ⟨_, rfl, .inl ⟨List.length_eq_zero_iff.1 hc, rfl, rfl⟩⟩
  · skip
    refine w_skip ?_
    refine a_normal ?_
    refine w_seq ?_
    refine w_region rfl ?_
    refine l_val (v_move rfl) rfl ?_
    refine l_val (v_move rfl) rfl ?_
    refine l_val (v_assign rfl) rfl ?_
    refine l_val (v_assign rfl) rfl ?_
    refine l_val (v_assign rfl) rfl ?_
    refine l_nil ?_
    refine a_normal ?_
    refine w_ret ?_
    exact a_retD (ts := [6, 7, 8]) (arr b' o' ys s' * H) rfl rfl ⟨_, rfl, .inr ⟨fun h => hc (by rw [h]; rfl), q, b', o', c', s', rfl, hq1, hq2, rfl⟩⟩

def pickZ (c : Int) (n : Nat) : Nat := (if c < 0 then (-(c + 1)).toNat else c.toNat) % n

theorem pick_spec (c : Int) (hr : -9223372036854775808 ≤ c ∧ c < 9223372036854775808) (n : Nat) (hn : 0 < n) (H : HP) : Fn Tryd.prog B 10 [.int .i64 c, iN n] H (fun v H' => v = iN (pickZ c n) ∧ H' = H) := by
  refine fn_intro Tryd.func10 rfl rfl rfl ?_
  refine w_seq ?_
  refine w_region rfl ?_
  refine l_val (v_assign (v := .int .i64 (0 : Nat)) rfl) rfl ?_
  refine l_nil ?_
  refine a_normal ?_
  refine w_seq ?_
  refine w_seq ?_
  refine w_region rfl ?_
  refine l_val (v_move rfl) rfl ?_
  refine l_val (v_lssZ (i := c) (j := 0) rfl rfl) rfl ?_
  refine l_nil ?_
  refine a_normal ?_
  refine w_condD rfl (fun hc => ?_) (fun hc => ?_)
  · skip
    have e : -(c + 1) = (((-(c + 1)).toNat : Nat) : Int) := by omega
    refine w_region rfl ?_
    refine l_val (v_move rfl) rfl ?_
    refine l_val (v_addZ (i := c) (j := 1) rfl rfl (by omega)) rfl ?_
    refine l_val (v_negI (i := c + 1) rfl (by omega)) rfl ?_
    refine l_val (v_assign rfl) rfl ?_
    refine l_nil ?_
    refine a_normal ?_
    refine w_seq ?_
    refine w_region rfl ?_
    refine l_val (v_move rfl) rfl ?_
    refine l_val (v_move rfl) rfl ?_
    refine l_val (v_rem (k := .i64) (i := if c < 0 then (-(c + 1)).toNat else c.toNat) (j := n) (by first | rw [if_pos hc, ← e]; rfl | rw [if_neg hc, ← e]; rfl) rfl (by omega)) rfl ?_
    refine l_val (v_assign rfl) rfl ?_
    refine l_nil ?_
    refine a_normal ?_
    refine w_ret ?_
    exact a_ret (ts := [4]) rfl rfl ⟨rfl, rfl⟩
  · skip
    have e : c = ((c.toNat : Nat) : Int) := by omega
    refine w_skip ?_
    refine a_normal ?_
    refine w_seq ?_
    refine w_region rfl ?_
    refine l_val (v_move rfl) rfl ?_
    refine l_val (v_move rfl) rfl ?_
    refine l_val (v_rem (k := .i64) (i := if c < 0 then (-(c + 1)).toNat else c.toNat) (j := n) (by first | rw [if_pos hc, ← e]; rfl | rw [if_neg hc, ← e]; rfl) rfl (by omega)) rfl ?_
    refine l_val (v_assign rfl) rfl ?_
    refine l_nil ?_
    refine a_normal ?_
    refine w_ret ?_
    exact a_ret (ts := [4]) rfl rfl ⟨rfl, rfl⟩

theorem told_nil (H : HP) : Fn Tryd.prog B 34 [.nilIface] H (fun v H' => v = .tuple #[.int .i64 0, .int .i64 (-1)] ∧ H' = H) := by
  refine fn_intro Tryd.func34 rfl rfl rfl ?_
  refine w_seq ?_
  refine w_region rfl ?_
  refine l_val (v_assign (v := .int .i64 (0 : Nat)) rfl) rfl ?_
  refine l_val (v_assign (v := .int .i64 (0 : Nat)) rfl) rfl ?_
  refine l_nil ?_
  refine a_normal ?_
  refine w_seq ?_
  refine w_region rfl ?_
  refine l_eff (e_alloc (l := [_]) rfl) rfl ?_
  rintro _ _ ⟨b4, rfl, rfl⟩
  refine l_nil ?_
  refine a_normal ?_
  refine w_seq ?_
  refine w_region rfl ?_
  refine l_eff (e_alloc (l := [_]) rfl) rfl ?_
  rintro _ _ ⟨b5, rfl, rfl⟩
  refine l_nil ?_
  refine a_normal ?_
  refine w_seq ?_
  refine w_block ?_
  refine w_seq ?_
  refine w_region rfl ?_
  refine l_val (v_move rfl) rfl ?_
  refine l_val (v_bin (r := .bool true) rfl rfl (fun w => by kernel_rfl) (fun w => by kernel_rfl)) rfl ?_
  refine l_val (v_assign rfl) rfl ?_
  refine l_nil ?_
  refine a_normal ?_
  refine w_cond rfl (fun hc => ?_) (fun hc => ?_)
  rotate_left
  · cases hc
  refine w_seq ?_
  refine w_region rfl ?_
  refine l_val (v_assign (v := .int .i64 (0 : Nat)) rfl) rfl ?_
  refine l_val (v_assign rfl) rfl ?_
  refine l_nil ?_
  refine a_normal ?_
  refine w_ret ?_
  refine a_bret ?_
  refine a_tret ?_
  exact a_retD (ts := [2, 3]) H rfl rfl ⟨rfl, rfl⟩

theorem number_nil (H : HP) : Fn Tryd.prog B 29 [.nilIface] H (fun v H' => v = .int .i64 0 ∧ H' = H) := by
  refine fn_intro Tryd.func29 rfl rfl rfl ?_
  refine w_seq ?_
  refine w_region rfl ?_
  refine l_val (v_assign (v := .int .i64 (0 : Nat)) rfl) rfl ?_
  refine l_nil ?_
  refine a_normal ?_
  refine w_seq ?_
  refine w_region rfl ?_
  refine l_val (v_move rfl) rfl ?_
  refine l_eff (e_call rfl (told_nil _)) rfl ?_
  rintro _ _ ⟨rfl, rfl⟩
  refine l_val (v_move rfl) rfl ?_
  refine l_val (v_extract rfl rfl) rfl ?_
  refine l_val (v_extract rfl rfl) rfl ?_
  refine l_val (v_assign rfl) rfl ?_
  refine l_val (v_assign rfl) rfl ?_
  refine l_nil ?_
  refine a_normal ?_
  refine w_seq ?_
  refine w_region rfl ?_
  refine l_val (v_move rfl) rfl ?_
  refine l_val (v_assign rfl) rfl ?_
  refine l_nil ?_
  refine a_normal ?_
  refine w_ret ?_
  exact a_ret (ts := [2]) rfl rfl ⟨rfl, rfl⟩
end Go.Proofs.YtgfdlpcdjklcoaaDoor
