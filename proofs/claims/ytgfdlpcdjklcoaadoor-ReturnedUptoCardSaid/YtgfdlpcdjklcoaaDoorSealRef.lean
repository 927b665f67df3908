/- Contracts of the document's answer: sealing; no condition. -/
import Derived.Test.YtgfdlpcdjklcoaaDoorSeal2
namespace Go.Proofs.YtgfdlpcdjklcoaaDoor
open Go Go.RowKit
set_option linter.unusedVariables false
set_option maxRecDepth 20000
variable {B : World}

theorem turn_spec (x : UInt64) (k : Nat) (h0 : 0 < k) (h63 : k ≤ 63) (H : HP) : Fn Tryd.prog B 41 [u64 x, iN k] H (fun v H' => v = u64 (rotl x k) ∧ H' = H) := by
  refine fn_intro Tryd.func41 rfl rfl rfl ?_
  refine w_seq ?_
  refine w_region rfl ?_
  refine l_val (v_assign (v := .int .u64 (0 : Nat)) rfl) rfl ?_
  refine l_nil ?_
  refine a_normal ?_
  refine w_seq ?_
  refine w_seq ?_
  refine w_region rfl ?_
  refine l_val (v_assign (v := .int .i64 (0 : Nat)) rfl) rfl ?_
  refine l_nil ?_
  refine a_normal ?_
  refine w_block ?_
  refine w_loop (fun j : Nat => [(0, u64 (turns j x)), (1, iN k), (5, iN j)]) (fun _ => H) (fun j => j ≤ k) (fun j => k - j) 0 (Nat.zero_le _) (.cons rfl (.cons rfl (.cons rfl .nil))) rfl ?_
  intro j hj
  refine w_seq ?_
  refine w_seq ?_
  refine w_region rfl ?_
  refine l_val (v_move rfl) rfl ?_
  refine l_val (v_move rfl) rfl ?_
  refine l_val (v_lss rfl rfl) rfl ?_
  refine l_nil ?_
  refine a_normal ?_
  refine w_condD rfl (fun hc => ?_) (fun hc => ?_)
  · skip
    refine w_skip ?_
    refine a_normal ?_
    refine w_seq ?_
    refine w_block ?_
    refine w_seq ?_
    refine w_region rfl ?_
    refine l_val (v_move rfl) rfl ?_
    refine l_val (v_shr64 (j := 63) rfl rfl (by omega)) rfl ?_
    refine l_val (v_assign rfl) rfl ?_
    refine l_nil ?_
    refine a_normal ?_
    refine w_region rfl ?_
    refine l_val (v_move rfl) rfl ?_
    refine l_val (v_mul64 (b := 2) rfl rfl) rfl ?_
    refine l_val (v_move rfl) rfl ?_
    refine l_val (v_add64 rfl rfl) rfl ?_
    refine l_val (v_assign rfl) rfl ?_
    refine l_nil ?_
    refine a_bnormal ?_
    refine a_normal ?_
    refine w_region rfl ?_
    refine l_val (v_move rfl) rfl ?_
    refine l_val (v_addI (j := 1) rfl rfl (by omega)) rfl ?_
    refine l_val (v_assign rfl) rfl ?_
    refine l_nil ?_
    exact a_loop (j + 1) (by omega) (by omega) (.cons rfl (.cons rfl (.cons rfl .nil))) rfl
  · skip
    obtain rfl : j = k := by omega
    refine w_exit ?_
    refine a_texit ?_
    refine a_texit ?_
    refine a_bexit ?_
    refine a_normal ?_
    refine w_seq ?_
    refine w_region rfl ?_
    refine l_val (v_move rfl) rfl ?_
    refine l_val (v_assign rfl) rfl ?_
    refine l_nil ?_
    refine a_normal ?_
    refine w_ret ?_
    exact a_ret (ts := [4]) rfl rfl ⟨by rw [← turns_rotl x j h0 h63]; rfl, rfl⟩

set_option maxHeartbeats 1000000 in
theorem round_spec (v : S4) (H : HP) : Fn Tryd.prog B 22 [.agg (s4 v).toArray] H (fun r H' => r = .agg (s4 (sround v)).toArray ∧ H' = H) := by
  refine fn_intro Tryd.func22 rfl rfl rfl ?_
  refine w_seq ?_
  refine w_region rfl ?_
  refine l_eff (e_box (l := s4 v) rfl rfl) rfl ?_
  rintro _ _ ⟨b1, rfl, rfl⟩
  refine l_eff (e_alloc (l := [_, _, _, _]) rfl) rfl ?_
  rintro _ _ ⟨b2, rfl, rfl⟩
  refine l_nil ?_
  refine a_normal ?_
  refine w_seq ?_
  refine w_region rfl ?_
  refine l_val (v_indexAddrAK (i := 0) (q := 0) rfl rfl (by omega) rfl) rfl ?_
  refine l_val (v_load rfl (by first | trivial | omega)) rfl ?_
  refine l_val (v_indexAddrAK (i := 1) (q := 1) rfl rfl (by omega) rfl) rfl ?_
  refine l_val (v_load rfl (by first | trivial | omega)) rfl ?_
  refine l_val (v_add64 rfl rfl) rfl ?_
  refine l_val (v_indexAddrAK (i := 0) (q := 0) rfl rfl (by omega) rfl) rfl ?_
  refine l_eff0 (e_store rfl rfl rfl (by first | trivial | omega)) ?_
  rintro _ _ ⟨rfl, rfl⟩
  refine l_nil ?_
  refine a_normal ?_
  refine w_seq ?_
  refine w_region rfl ?_
  refine l_val (v_indexAddrAK (i := 1) (q := 1) rfl rfl (by omega) rfl) rfl ?_
  refine l_val (v_load rfl (by first | trivial | omega)) rfl ?_
  refine l_eff (e_call rfl (turn_spec _ 13 (by decide) (by decide) _)) rfl ?_
  rintro _ _ ⟨rfl, rfl⟩
  refine l_val (v_indexAddrAK (i := 1) (q := 1) rfl rfl (by omega) rfl) rfl ?_
  refine l_eff0 (e_store rfl rfl rfl (by first | trivial | omega)) ?_
  rintro _ _ ⟨rfl, rfl⟩
  refine l_nil ?_
  refine a_normal ?_
  refine w_seq ?_
  refine w_region rfl ?_
  refine l_val (v_indexAddrAK (i := 1) (q := 1) rfl rfl (by omega) rfl) rfl ?_
  refine l_val (v_load rfl (by first | trivial | omega)) rfl ?_
  refine l_val (v_indexAddrAK (i := 0) (q := 0) rfl rfl (by omega) rfl) rfl ?_
  refine l_val (v_load rfl (by first | trivial | omega)) rfl ?_
  refine l_val (v_xor64 rfl rfl) rfl ?_
  refine l_val (v_indexAddrAK (i := 1) (q := 1) rfl rfl (by omega) rfl) rfl ?_
  refine l_eff0 (e_store rfl rfl rfl (by first | trivial | omega)) ?_
  rintro _ _ ⟨rfl, rfl⟩
  refine l_nil ?_
  refine a_normal ?_
  refine w_seq ?_
  refine w_region rfl ?_
  refine l_val (v_indexAddrAK (i := 0) (q := 0) rfl rfl (by omega) rfl) rfl ?_
  refine l_val (v_load rfl (by first | trivial | omega)) rfl ?_
  refine l_eff (e_call rfl (turn_spec _ 32 (by decide) (by decide) _)) rfl ?_
  rintro _ _ ⟨rfl, rfl⟩
  refine l_val (v_indexAddrAK (i := 0) (q := 0) rfl rfl (by omega) rfl) rfl ?_
  refine l_eff0 (e_store rfl rfl rfl (by first | trivial | omega)) ?_
  rintro _ _ ⟨rfl, rfl⟩
  refine l_nil ?_
  refine a_normal ?_
  refine w_seq ?_
  refine w_region rfl ?_
  refine l_val (v_indexAddrAK (i := 2) (q := 2) rfl rfl (by omega) rfl) rfl ?_
  refine l_val (v_load rfl (by first | trivial | omega)) rfl ?_
  refine l_val (v_indexAddrAK (i := 3) (q := 3) rfl rfl (by omega) rfl) rfl ?_
  refine l_val (v_load rfl (by first | trivial | omega)) rfl ?_
  refine l_val (v_add64 rfl rfl) rfl ?_
  refine l_val (v_indexAddrAK (i := 2) (q := 2) rfl rfl (by omega) rfl) rfl ?_
  refine l_eff0 (e_store rfl rfl rfl (by first | trivial | omega)) ?_
  rintro _ _ ⟨rfl, rfl⟩
  refine l_nil ?_
  refine a_normal ?_
  refine w_seq ?_
  refine w_region rfl ?_
  refine l_val (v_indexAddrAK (i := 3) (q := 3) rfl rfl (by omega) rfl) rfl ?_
  refine l_val (v_load rfl (by first | trivial | omega)) rfl ?_
  refine l_eff (e_call rfl (turn_spec _ 16 (by decide) (by decide) _)) rfl ?_
  rintro _ _ ⟨rfl, rfl⟩
  refine l_val (v_indexAddrAK (i := 3) (q := 3) rfl rfl (by omega) rfl) rfl ?_
  refine l_eff0 (e_store rfl rfl rfl (by first | trivial | omega)) ?_
  rintro _ _ ⟨rfl, rfl⟩
  refine l_nil ?_
  refine a_normal ?_
  refine w_seq ?_
  refine w_region rfl ?_
  refine l_val (v_indexAddrAK (i := 3) (q := 3) rfl rfl (by omega) rfl) rfl ?_
  refine l_val (v_load rfl (by first | trivial | omega)) rfl ?_
  refine l_val (v_indexAddrAK (i := 2) (q := 2) rfl rfl (by omega) rfl) rfl ?_
  refine l_val (v_load rfl (by first | trivial | omega)) rfl ?_
  refine l_val (v_xor64 rfl rfl) rfl ?_
  refine l_val (v_indexAddrAK (i := 3) (q := 3) rfl rfl (by omega) rfl) rfl ?_
  refine l_eff0 (e_store rfl rfl rfl (by first | trivial | omega)) ?_
  rintro _ _ ⟨rfl, rfl⟩
  refine l_nil ?_
  refine a_normal ?_
  refine w_seq ?_
  refine w_region rfl ?_
  refine l_val (v_indexAddrAK (i := 0) (q := 0) rfl rfl (by omega) rfl) rfl ?_
  refine l_val (v_load rfl (by first | trivial | omega)) rfl ?_
  refine l_val (v_indexAddrAK (i := 3) (q := 3) rfl rfl (by omega) rfl) rfl ?_
  refine l_val (v_load rfl (by first | trivial | omega)) rfl ?_
  refine l_val (v_add64 rfl rfl) rfl ?_
  refine l_val (v_indexAddrAK (i := 0) (q := 0) rfl rfl (by omega) rfl) rfl ?_
  refine l_eff0 (e_store rfl rfl rfl (by first | trivial | omega)) ?_
  rintro _ _ ⟨rfl, rfl⟩
  refine l_nil ?_
  refine a_normal ?_
  refine w_seq ?_
  refine w_region rfl ?_
  refine l_val (v_indexAddrAK (i := 3) (q := 3) rfl rfl (by omega) rfl) rfl ?_
  refine l_val (v_load rfl (by first | trivial | omega)) rfl ?_
  refine l_eff (e_call rfl (turn_spec _ 21 (by decide) (by decide) _)) rfl ?_
  rintro _ _ ⟨rfl, rfl⟩
  refine l_val (v_indexAddrAK (i := 3) (q := 3) rfl rfl (by omega) rfl) rfl ?_
  refine l_eff0 (e_store rfl rfl rfl (by first | trivial | omega)) ?_
  rintro _ _ ⟨rfl, rfl⟩
  refine l_nil ?_
  refine a_normal ?_
  refine w_seq ?_
  refine w_region rfl ?_
  refine l_val (v_indexAddrAK (i := 3) (q := 3) rfl rfl (by omega) rfl) rfl ?_
  refine l_val (v_load rfl (by first | trivial | omega)) rfl ?_
  refine l_val (v_indexAddrAK (i := 0) (q := 0) rfl rfl (by omega) rfl) rfl ?_
  refine l_val (v_load rfl (by first | trivial | omega)) rfl ?_
  refine l_val (v_xor64 rfl rfl) rfl ?_
  refine l_val (v_indexAddrAK (i := 3) (q := 3) rfl rfl (by omega) rfl) rfl ?_
  refine l_eff0 (e_store rfl rfl rfl (by first | trivial | omega)) ?_
  rintro _ _ ⟨rfl, rfl⟩
  refine l_nil ?_
  refine a_normal ?_
  refine w_seq ?_
  refine w_region rfl ?_
  refine l_val (v_indexAddrAK (i := 2) (q := 2) rfl rfl (by omega) rfl) rfl ?_
  refine l_val (v_load rfl (by first | trivial | omega)) rfl ?_
  refine l_val (v_indexAddrAK (i := 1) (q := 1) rfl rfl (by omega) rfl) rfl ?_
  refine l_val (v_load rfl (by first | trivial | omega)) rfl ?_
  refine l_val (v_add64 rfl rfl) rfl ?_
  refine l_val (v_indexAddrAK (i := 2) (q := 2) rfl rfl (by omega) rfl) rfl ?_
  refine l_eff0 (e_store rfl rfl rfl (by first | trivial | omega)) ?_
  rintro _ _ ⟨rfl, rfl⟩
  refine l_nil ?_
  refine a_normal ?_
  refine w_seq ?_
  refine w_region rfl ?_
  refine l_val (v_indexAddrAK (i := 1) (q := 1) rfl rfl (by omega) rfl) rfl ?_
  refine l_val (v_load rfl (by first | trivial | omega)) rfl ?_
  refine l_eff (e_call rfl (turn_spec _ 17 (by decide) (by decide) _)) rfl ?_
  rintro _ _ ⟨rfl, rfl⟩
  refine l_val (v_indexAddrAK (i := 1) (q := 1) rfl rfl (by omega) rfl) rfl ?_
  refine l_eff0 (e_store rfl rfl rfl (by first | trivial | omega)) ?_
  rintro _ _ ⟨rfl, rfl⟩
  refine l_nil ?_
  refine a_normal ?_
  refine w_seq ?_
  refine w_region rfl ?_
  refine l_val (v_indexAddrAK (i := 1) (q := 1) rfl rfl (by omega) rfl) rfl ?_
  refine l_val (v_load rfl (by first | trivial | omega)) rfl ?_
  refine l_val (v_indexAddrAK (i := 2) (q := 2) rfl rfl (by omega) rfl) rfl ?_
  refine l_val (v_load rfl (by first | trivial | omega)) rfl ?_
  refine l_val (v_xor64 rfl rfl) rfl ?_
  refine l_val (v_indexAddrAK (i := 1) (q := 1) rfl rfl (by omega) rfl) rfl ?_
  refine l_eff0 (e_store rfl rfl rfl (by first | trivial | omega)) ?_
  rintro _ _ ⟨rfl, rfl⟩
  refine l_nil ?_
  refine a_normal ?_
  refine w_seq ?_
  refine w_region rfl ?_
  refine l_val (v_indexAddrAK (i := 2) (q := 2) rfl rfl (by omega) rfl) rfl ?_
  refine l_val (v_load rfl (by first | trivial | omega)) rfl ?_
  refine l_eff (e_call rfl (turn_spec _ 32 (by decide) (by decide) _)) rfl ?_
  rintro _ _ ⟨rfl, rfl⟩
  refine l_val (v_indexAddrAK (i := 2) (q := 2) rfl rfl (by omega) rfl) rfl ?_
  refine l_eff0 (e_store rfl rfl rfl (by first | trivial | omega)) ?_
  rintro _ _ ⟨rfl, rfl⟩
  refine l_nil ?_
  refine a_normal ?_
  refine w_seq ?_
  refine w_region rfl ?_
  refine l_val (v_loadA rfl rfl) rfl ?_
  refine l_eff0 (e_storeA rfl rfl (by constructor <;> rfl) (by simp [Value.oneCell'])) ?_
  rintro _ _ ⟨rfl, rfl⟩
  refine l_nil ?_
  refine a_normal ?_
  refine w_ret ?_
  exact a_retG H rfl (rvs_cons (rv_cellA rfl rfl) rvs_nil) ⟨rfl, rfl⟩

theorem low_spec (p : Option Addr) (b o c : Nat) (k : Nat) (xs : List UInt8) (H : HP) (hs : Sl p b o k c) (hr : RdA B H b o xs) (h8 : 8 ≤ k) (hx : k ≤ xs.length) :
    Fn Tryd.prog B 21 [.slice p k c] H (fun v H' => v = u64 (le xs 8) ∧ H' = H) := by
  refine fn_intro Tryd.func21 rfl rfl rfl ?_
  have ir := rd_of0 (B := B) hr
  refine w_seq ?_
  refine w_region rfl ?_
  refine l_val (v_assign (v := .int .u64 (0 : Nat)) rfl) rfl ?_
  refine l_nil ?_
  refine a_normal ?_
  refine w_seq ?_
  refine w_region rfl ?_
  refine l_val (v_assign (v := .int .u64 (0 : Nat)) rfl) rfl ?_
  refine l_nil ?_
  refine a_normal ?_
  refine w_seq ?_
  refine w_seq ?_
  refine w_region rfl ?_
  refine l_val (v_assign (v := .int .i64 (7 : Nat)) rfl) rfl ?_
  refine l_nil ?_
  refine a_normal ?_
  refine w_block ?_
  refine w_loop (fun j : Nat => [(0, .slice p k c), (3, u64 (acc xs 8 j)), (4, .int .i64 (7 - (j : Int)))]) (fun _ => H) (fun j => j ≤ 8) (fun j => 8 - j) 0 (Nat.zero_le _) (.cons rfl (.cons rfl (.cons rfl .nil))) rfl ?_
  intro j hj
  refine w_seq ?_
  refine w_seq ?_
  refine w_region rfl ?_
  refine l_val (v_move rfl) rfl ?_
  refine l_val (v_geqZ (i := 7 - (j : Int)) (j := 0) rfl rfl) rfl ?_
  refine l_nil ?_
  refine a_normal ?_
  refine w_condD rfl (fun hc => ?_) (fun hc => ?_)
  · skip
    have e7 : 7 - (j : Int) = ((7 - j : Nat) : Int) := by omega
    refine w_skip ?_
    refine a_normal ?_
    refine w_seq ?_
    refine w_block ?_
    refine w_region rfl ?_
    refine l_val (v_move rfl) rfl ?_
    refine l_val (v_mul64 (b := 256) rfl rfl) rfl ?_
    refine l_val (v_move rfl) rfl ?_
    refine l_val (v_move rfl) rfl ?_
    refine l_val (v_indexAddrR (i := 7 - j) rfl (by rw [← e7]; rfl) (b := b) (o := o) hs (by omega)) rfl ?_
    refine l_val (v_load rfl (by omega)) rfl ?_
    refine l_val (v_to64 rfl) rfl ?_
    refine l_val (v_add64 rfl rfl) rfl ?_
    refine l_val (v_assign rfl) rfl ?_
    refine l_nil ?_
    refine a_bnormal ?_
    refine a_normal ?_
    refine w_region rfl ?_
    refine l_val (v_move rfl) rfl ?_
    refine l_val (v_subZ (i := 7 - (j : Int)) (j := 1) rfl rfl (by omega)) rfl ?_
    refine l_val (v_assign rfl) rfl ?_
    refine l_nil ?_
    exact a_loop (j + 1) (by omega) (by omega) (.cons rfl (.cons rfl (.cons (by show some (Value.int _ _) = some _; congr 2; omega) .nil))) rfl
  · skip
    obtain rfl : j = 8 := by omega
    refine w_exit ?_
    refine a_texit ?_
    refine a_texit ?_
    refine a_bexit ?_
    refine a_normal ?_
    refine w_seq ?_
    refine w_region rfl ?_
    refine l_val (v_move rfl) rfl ?_
    refine l_val (v_assign rfl) rfl ?_
    refine l_nil ?_
    refine a_normal ?_
    refine w_ret ?_
    exact a_ret (ts := [2]) rfl rfl ⟨by rw [← acc_le]; rfl, rfl⟩

theorem bigL_take (n : UInt64) (j : Nat) (h : j < 8) : (bigL n).take (j + 1) = (bigL n).take j ++ [(n >>> UInt64.ofNat (56 - 8 * j)).toUInt8] := by
  have : j = 0 ∨ j = 1 ∨ j = 2 ∨ j = 3 ∨ j = 4 ∨ j = 5 ∨ j = 6 ∨ j = 7 := by omega
  rcases this with h | h | h | h | h | h | h | h <;> subst h <;> first | rfl | simp [bigL]

theorem high_spec (n : UInt64) (p : Option Addr) (b o c : Nat) (xs : List UInt8) (s : List Value) (R : HP) (hs : Sl p b o xs.length c) (hc : xs.length * 1 + s.length = c * 1) (hx : xs.length < 100000000) :
    Fn Tryd.prog B 25 [.slice p xs.length c, u64 n] (arr b o xs s * R) (fun v H' => IsSl R (xs ++ bigL n) v H') := by
  refine fn_intro Tryd.func25 rfl rfl rfl ?_
  refine w_seq ?_
  refine w_region rfl ?_
  refine l_val (v_assign rfl) rfl ?_
  refine l_nil ?_
  refine a_normal ?_
  refine w_seq ?_
  refine w_seq ?_
  refine w_region rfl ?_
  refine l_val (v_assign (v := .int .i64 (56 : Nat)) rfl) rfl ?_
  refine l_nil ?_
  refine a_normal ?_
  refine w_block ?_
  refine w_loop (α := Nat × Option Addr × Nat × Nat × Nat × List Value) (fun z => [(0, .slice z.2.1 (xs ++ (bigL n).take z.1).length z.2.2.2.2.1), (1, u64 n), (5, .int .i64 (56 - 8 * (z.1 : Int)))]) (fun z => arr z.2.2.1 z.2.2.2.1 (xs ++ (bigL n).take z.1) z.2.2.2.2.2 * R)
    (fun z => z.1 ≤ 8 ∧ Sl z.2.1 z.2.2.1 z.2.2.2.1 (xs ++ (bigL n).take z.1).length z.2.2.2.2.1 ∧ (xs ++ (bigL n).take z.1).length * 1 + z.2.2.2.2.2.length = z.2.2.2.2.1 * 1) (fun z => 8 - z.1) (0, p, b, o, c, s)
    ⟨Nat.zero_le _, by simpa using hs, by simpa using hc⟩ (.cons (by simp only [List.take_zero, List.append_nil]; rfl) (.cons rfl (.cons rfl .nil))) (by simp) ?_
  rintro ⟨j, q, b', o', c', s'⟩ ⟨hj, hq1, hq2⟩
  dsimp only at hj hq1 hq2 ⊢
  refine w_seq ?_
  refine w_seq ?_
  refine w_region rfl ?_
  refine l_val (v_move rfl) rfl ?_
  refine l_val (v_geqZ (i := 56 - 8 * (j : Int)) (j := 0) rfl rfl) rfl ?_
  refine l_nil ?_
  refine a_normal ?_
  refine w_condD rfl (fun hc => ?_) (fun hc => ?_)
  · skip
    have e7 : 56 - 8 * (j : Int) = ((56 - 8 * j : Nat) : Int) := by omega
    refine w_skip ?_
    refine a_normal ?_
    refine w_seq ?_
    refine w_block ?_
    refine w_region rfl ?_
    refine l_val (v_move rfl) rfl ?_
    refine l_val (v_move rfl) rfl ?_
    refine l_val (v_move rfl) rfl ?_
    refine l_val (v_conv (i := 56 - 8 * j) (by rw [← e7]; rfl) (fit_u64 (by omega))) rfl ?_
    refine l_val (v_shr64 (j := 56 - 8 * j) rfl rfl (by omega)) rfl ?_
    refine l_val (v_to8 rfl) rfl ?_
    refine l_eff (e_mk1 rfl rfl (by simp [Value.oneCell']) rfl rfl rfl) rfl ?_
    rintro _ _ ⟨b16, rfl, rfl⟩
    refine l_heap (H' := arr b' o' (xs ++ (bigL n).take j) s' * (HP.pts b16 0 (flat [(n >>> UInt64.ofNat (56 - 8 * j)).toUInt8]) * R)) (by rw [HP.left_comm]; rfl) ?_
    refine l_eff (e_append (ys := [(n >>> UInt64.ofNat (56 - 8 * j)).toUInt8]) (bb := b16) (oo := 0) rfl hq1 hq2 rfl ⟨.inr rfl, Nat.le_refl _⟩ inferInstance rfl (by simp; omega) (by omega)) rfl ?_
    rintro _ _ ⟨q2, b2, o2, c2, s2, rfl, h2, h3, rfl⟩
    refine l_val (v_assign rfl) rfl ?_
    refine l_nil ?_
    refine a_bnormal ?_
    refine a_normal ?_
    refine w_region rfl ?_
    refine l_val (v_move rfl) rfl ?_
    refine l_val (v_subZ (i := 56 - 8 * (j : Int)) (j := 8) rfl rfl (by omega)) rfl ?_
    refine l_val (v_assign rfl) rfl ?_
    refine l_nil ?_
    refine a_ent (arr b2 o2 (xs ++ (bigL n).take j ++ [(n >>> UInt64.ofNat (56 - 8 * j)).toUInt8]) s2 * R) ?_
    have e : xs ++ (bigL n).take (j + 1) = xs ++ (bigL n).take j ++ [(n >>> UInt64.ofNat (56 - 8 * j)).toUInt8] := by rw [bigL_take n j (by omega), List.append_assoc]
    exact a_loop (j + 1, q2, b2, o2, c2, s2) ⟨by omega, by rw [e]; exact h2, by rw [e]; exact h3⟩ (by show 8 - (j + 1) < 8 - j; omega) (.cons (by rw [e]; rfl) (.cons rfl (.cons (by show some (Value.int _ _) = some _; congr 2; simp only []; omega) .nil))) (by simp only [e])
  · skip
    obtain rfl : j = 8 := by omega
    refine w_exit ?_
    refine a_texit ?_
    refine a_texit ?_
    refine a_bexit ?_
    refine a_normal ?_
    refine w_seq ?_
    refine w_region rfl ?_
    refine l_val (v_move rfl) rfl ?_
    refine l_val (v_assign rfl) rfl ?_
    refine l_nil ?_
    refine a_normal ?_
    refine w_ret ?_
    exact a_ret (ts := [4]) rfl rfl ⟨q, b', o', c', s', rfl, hq1, hq2, rfl⟩

theorem high_nil (n : UInt64) (R : HP) : Fn Tryd.prog B 25 [.slice none 0 0, u64 n] R (fun v H' => IsSl R (bigL n) v H') := by
  have h := high_spec (B := B) n none 0 0 0 [] [] R ⟨.inl rfl, Nat.le_refl _⟩ rfl (by simp)
  rw [arr_nil, HP.emp_mul] at h
  exact h

def padP (xs : List UInt8) : List UInt8 := xs ++ List.replicate (7 - xs.length % 8) 0 ++ [UInt8.ofNat (xs.length % 256)]
theorem padP_length (xs : List UInt8) : (padP xs).length = 8 * (xs.length / 8 + 1) := by simp [padP]; omega
def sipR (ks xs : List UInt8) : UInt64 :=
  let v := eat (padP xs) (xs.length / 8 + 1) (sinit ks)
  let v := srounds 4 { v with c := v.c ^^^ 255 }
  v.a ^^^ v.b ^^^ v.c ^^^ v.d
theorem eat_pad (xs : List UInt8) (v : S4) : ∀ k, k ≤ xs.length / 8 → eat (padP xs) k v = eat xs k v
  | 0, _ => rfl
  | k + 1, h => by
    simp only [eat]
    rw [eat_pad xs v k (by omega)]
    congr 1
    refine le_congr 8 fun j hj => ?_
    simp only [List.getD_eq_getElem?_getD, List.getElem?_drop, padP, List.append_assoc]
    rw [List.getElem?_append_left (by omega)]
theorem last_pad (xs : List UInt8) : le ((padP xs).drop (8 * (xs.length / 8))) 8 = le (lastW xs) 8 := by
  refine le_congr 8 fun j hj => ?_
  have hn : UInt8.ofNat (xs.length % 256) = UInt8.ofNat xs.length := by
    apply UInt8.toNat_inj.1; simp
  simp only [List.getD_eq_getElem?_getD, List.getElem?_drop, padP, lastW, pad8, List.getElem?_set, List.length_append, List.length_drop, List.length_replicate]
  by_cases h1 : 8 * (xs.length / 8) + j < xs.length
  · rw [List.append_assoc, List.getElem?_append_left h1, if_neg (by omega), List.getElem?_append_left (by simp; omega), List.getElem?_drop]
  · by_cases h2 : j = 7
    · subst h2
      rw [if_pos rfl, if_pos (by omega), List.getElem?_append_right (by simp; omega)]
      simp [show 8 * (xs.length / 8) + 7 - (xs.length + (7 - xs.length % 8)) = 0 by omega, hn]
    · rw [List.append_assoc, List.getElem?_append_right (by omega), List.getElem?_append_left (by simp; omega), if_neg (by omega), List.getElem?_append_right (by simp; omega),
        List.getElem?_replicate, List.getElem?_replicate, if_pos (by omega), if_pos (by simp; omega)]
theorem sipR_eq (ks xs : List UInt8) : sipR ks xs = sip ks xs := by
  simp only [sipR, sip, eat, last_pad, eat_pad xs (sinit ks) (xs.length / 8) (Nat.le_refl _)]

set_option maxHeartbeats 2000000 in
theorem rhash_spec (ks xs : List UInt8) (p : Option Addr) (b o c : Nat) (H : HP) (hk : ks.length = 16) (hs : Sl p b o xs.length c) (hr : RdA B H b o xs) (hx : xs.length < 100000000) :
    Fn Tryd.prog B 7 [.agg (flat ks).toArray, .slice p xs.length c] H (fun v H' => v = u64 (sip ks xs) ∧ H' = H) := by
  refine fn_intro Tryd.func7 rfl rfl rfl ?_
  refine w_seq ?_
  refine w_region rfl ?_
  refine l_eff (e_box (l := flat ks) rfl rfl) rfl ?_
  rintro _ _ ⟨b2, rfl, rfl⟩
  refine l_val (v_assign (v := .int .u64 (0 : Nat)) rfl) rfl ?_
  refine l_nil ?_
  refine a_normal ?_
  refine w_seq ?_
  refine w_region rfl ?_
  refine l_val (v_sliceAh (h := 8) rfl rfl (by omega)) rfl ?_
  refine l_eff (e_call rfl (low_spec _ b2 0 16 8 ks _ ⟨.inr rfl, by omega⟩ inferInstance (by omega) (by omega))) rfl ?_
  rintro _ _ ⟨rfl, rfl⟩
  refine l_val (v_assign rfl) rfl ?_
  refine l_nil ?_
  refine a_normal ?_
  refine w_seq ?_
  refine w_region rfl ?_
  refine l_val (v_sliceAl (l := 8) rfl rfl (by omega)) rfl ?_
  refine l_eff (e_call rfl (low_spec _ b2 (0 + 8 * 1) (16 - 8) (16 - 8) (ks.drop 8) _ (sp_sl (k := 16) ⟨.inr rfl, by omega⟩ (by omega) (by omega)) inferInstance (by omega) (by simp; omega))) rfl ?_
  rintro _ _ ⟨rfl, rfl⟩
  refine l_val (v_assign rfl) rfl ?_
  refine l_nil ?_
  refine a_normal ?_
  refine w_seq ?_
  refine w_region rfl ?_
  refine l_val (v_move rfl) rfl ?_
  refine l_val (v_xor64 (b := 8317987319222330741) rfl rfl) rfl ?_
  refine l_val (v_move rfl) rfl ?_
  refine l_val (v_xor64 (b := 7237128888997146477) rfl rfl) rfl ?_
  refine l_val (v_move rfl) rfl ?_
  refine l_val (v_xor64 (b := 7816392313619706465) rfl rfl) rfl ?_
  refine l_val (v_move rfl) rfl ?_
  refine l_val (v_xor64 (b := 8387220255154660723) rfl rfl) rfl ?_
  refine l_val (v_mkA rfl rfl (by simp [Value.oneCell'])) rfl ?_
  refine l_eff (e_alloc (l := [_, _, _, _]) rfl) rfl ?_
  rintro _ _ ⟨b7, rfl, rfl⟩
  refine l_eff0 (e_storeA rfl rfl (by constructor <;> rfl) (by simp [Value.oneCell'])) ?_
  rintro _ _ ⟨rfl, rfl⟩
  refine l_nil ?_
  refine a_normal ?_
  refine w_seq ?_
  refine w_region rfl ?_
  refine l_val (v_move rfl) rfl ?_
  refine l_heap (H' := arr 0 0 ([] : List UInt8) [] * (HP.pts b7 0 (s4 (sinit ks)) * (HP.pts b2 0 (flat ks) * H))) (by rw [arr_nil, HP.emp_mul]; rfl) ?_
  refine l_eff (e_append (p := none) (c := 0) (ys := xs) (bb := b) (oo := o) rfl ⟨.inl rfl, Nat.le_refl _⟩ rfl rfl hs inferInstance rfl (by simp; omega) (by omega)) rfl ?_
  rintro _ _ ⟨p26, b26, o26, c26, s26, rfl, hs26, hc26, rfl⟩
  refine l_val (v_assign rfl) rfl ?_
  refine l_nil ?_
  refine a_normal ?_
  refine w_seq ?_
  refine w_block ?_
  refine w_loop (α := Nat × Option Addr × Nat × Nat × Nat × List Value) (fun z => [(1, .slice p xs.length c), (7, ptr b7 0), (8, .slice z.2.1 (xs ++ List.replicate z.1 0).length z.2.2.2.2.1)])
    (fun z => arr z.2.2.1 z.2.2.2.1 (xs ++ List.replicate z.1 0) z.2.2.2.2.2 * (HP.pts b7 0 (s4 (sinit ks)) * (HP.pts b2 0 (flat ks) * H)))
    (fun z => z.1 ≤ 7 - xs.length % 8 ∧ Sl z.2.1 z.2.2.1 z.2.2.2.1 (xs ++ List.replicate z.1 0).length z.2.2.2.2.1 ∧ (xs ++ List.replicate z.1 0).length * 1 + z.2.2.2.2.2.length = z.2.2.2.2.1 * 1) (fun z => 7 - xs.length % 8 - z.1) (0, p26, b26, o26, c26, s26)
    ⟨Nat.zero_le _, by simpa using hs26, by simpa using hc26⟩ (.cons rfl (.cons rfl (.cons (by simp only [List.replicate_zero, List.append_nil]; rfl) .nil))) (by simp) ?_
  rintro ⟨j, q, b', o', c', s'⟩ ⟨hj, hq1, hq2⟩
  dsimp only at hj hq1 hq2 ⊢
  have hlj : (xs ++ List.replicate j (0 : UInt8)).length = xs.length + j := by simp
  refine w_seq ?_
  refine w_seq ?_
  refine w_region rfl ?_
  refine l_val (v_move rfl) rfl ?_
  refine l_val (v_lenS rfl) rfl ?_
  refine l_val (v_rem (j := 8) rfl rfl (by omega)) rfl ?_
  refine l_val (v_neq (j := 7) rfl rfl) rfl ?_
  refine l_nil ?_
  refine a_normal ?_
  refine w_condD rfl (fun hc => ?_) (fun hc => ?_)
  · skip
    refine w_skip ?_
    refine a_normal ?_
    refine w_block ?_
    refine w_region rfl ?_
    refine l_val (v_move rfl) rfl ?_
    refine l_eff (e_mk1 rfl rfl (by simp [Value.oneCell']) rfl rfl rfl) rfl ?_
    rintro _ _ ⟨b32, rfl, rfl⟩
    refine l_heap (H' := arr b' o' (xs ++ List.replicate j 0) s' * (HP.pts b32 0 (flat [(0 : UInt8)]) * (HP.pts b7 0 (s4 (sinit ks)) * (HP.pts b2 0 (flat ks) * H)))) (by rw [HP.left_comm]; rfl) ?_
    refine l_eff (e_append (ys := [(0 : UInt8)]) (bb := b32) (oo := 0) rfl hq1 hq2 rfl ⟨.inr rfl, Nat.le_refl _⟩ inferInstance rfl (by rw [hlj]; simp; omega) (by omega)) rfl ?_
    rintro _ _ ⟨q2, b2', o2, c2, s2, rfl, h2, h3, rfl⟩
    refine l_val (v_assign rfl) rfl ?_
    refine l_nil ?_
    refine a_bnormal ?_
    refine a_ent (arr b2' o2 (xs ++ List.replicate j 0 ++ [0]) s2 * (HP.pts b7 0 (s4 (sinit ks)) * (HP.pts b2 0 (flat ks) * H))) ?_
    have e : xs ++ List.replicate (j + 1) (0 : UInt8) = xs ++ List.replicate j 0 ++ [0] := by rw [List.replicate_succ', List.append_assoc]
    exact a_loop (j + 1, q2, b2', o2, c2, s2) ⟨by simp only [hlj] at hc; omega, by rw [e]; exact h2, by rw [e]; exact h3⟩ (by simp only [hlj] at hc; show 7 - xs.length % 8 - (j + 1) < 7 - xs.length % 8 - j; omega) (.cons rfl (.cons rfl (.cons (by rw [e]; rfl) .nil))) (by simp only [e])
  · skip
    obtain rfl : j = 7 - xs.length % 8 := by simp only [hlj] at hc; omega
    refine w_exit ?_
    refine a_texit ?_
    refine a_texit ?_
    refine a_bexit ?_
    refine a_normal ?_
    refine w_seq ?_
    refine w_region rfl ?_
    refine l_val (v_move rfl) rfl ?_
    refine l_val (v_move rfl) rfl ?_
    refine l_val (v_lenS rfl) rfl ?_
    refine l_val (v_remI (j := 256) rfl rfl (by omega)) rfl ?_
    refine l_val (v_ito8 rfl) rfl ?_
    refine l_eff (e_mk1 rfl rfl (by simp [Value.oneCell']) rfl rfl rfl) rfl ?_
    rintro _ _ ⟨b39, rfl, rfl⟩
    refine l_heap (H' := arr b' o' (xs ++ List.replicate (7 - xs.length % 8) 0) s' * (HP.pts b39 0 (flat [UInt8.ofNat (xs.length % 256)]) * (HP.pts b7 0 (s4 (sinit ks)) * (HP.pts b2 0 (flat ks) * H)))) (by rw [HP.left_comm]; rfl) ?_
    refine l_eff (e_append (ys := [UInt8.ofNat (xs.length % 256)]) (bb := b39) (oo := 0) rfl hq1 hq2 rfl ⟨.inr rfl, Nat.le_refl _⟩ inferInstance rfl (by rw [hlj]; simp; omega) (by omega)) rfl ?_
    rintro _ _ ⟨q3, b3, o3, c3, s3, rfl, h5, h6, rfl⟩
    refine l_val (v_assign rfl) rfl ?_
    refine l_nil ?_
    refine a_normal ?_
    refine w_seq ?_
    refine w_seq ?_
    refine w_region rfl ?_
    refine l_val (v_assign (v := .int .i64 (0 : Nat)) rfl) rfl ?_
    refine l_nil ?_
    refine a_normal ?_
    refine w_block ?_
    have hPl := padP_length xs
    refine w_loop (fun k : Nat => [(7, ptr b7 0), (8, .slice q3 (padP xs).length c3), (9, iN (8 * k))]) (fun k => HP.pts b7 0 (s4 (eat (padP xs) k (sinit ks))) * (arr b3 o3 (padP xs) s3 * (HP.pts b39 0 (flat [UInt8.ofNat (xs.length % 256)]) * (HP.pts b2 0 (flat ks) * H))))
      (fun k => k ≤ xs.length / 8 + 1) (fun k => xs.length / 8 + 1 - k) 0 (Nat.zero_le _) (.cons rfl (.cons rfl (.cons rfl .nil))) (by show arr b3 o3 (padP xs) s3 * (_ * (HP.pts b7 0 (s4 (sinit ks)) * _)) = HP.pts b7 0 (s4 (sinit ks)) * _; ac_rfl) ?_
    intro k hk2
    refine w_seq ?_
    refine w_seq ?_
    refine w_region rfl ?_
    refine l_val (v_move rfl) rfl ?_
    refine l_val (v_move rfl) rfl ?_
    refine l_val (v_lenS rfl) rfl ?_
    refine l_val (v_lss rfl rfl) rfl ?_
    refine l_nil ?_
    refine a_normal ?_
    refine w_condD rfl (fun hc => ?_) (fun hc => ?_)
    · skip
      refine w_skip ?_
      refine a_normal ?_
      refine w_seq ?_
      refine w_block ?_
      refine w_seq ?_
      refine w_region rfl ?_
      refine l_val (v_move rfl) rfl ?_
      refine l_val (v_move rfl) rfl ?_
      refine l_val (v_sliceSl (l := 8 * k) rfl rfl (by omega)) rfl ?_
      refine l_eff (e_call rfl (low_spec _ b3 (o3 + 8 * k * 1) (c3 - 8 * k) ((padP xs).length - 8 * k) ((padP xs).drop (8 * k)) _ (sp_sl h5 (by omega) (h5.2)) inferInstance (by omega) (by simp))) rfl ?_
      rintro _ _ ⟨rfl, rfl⟩
      refine l_val (v_assign rfl) rfl ?_
      refine l_nil ?_
      refine a_normal ?_
      refine w_seq ?_
      refine w_region rfl ?_
      refine l_val (v_indexAddrAK (i := 3) (q := 3) rfl rfl (by omega) rfl) rfl ?_
      refine l_val (v_load rfl (by first | trivial | omega)) rfl ?_
      refine l_val (v_move rfl) rfl ?_
      refine l_val (v_xor64 rfl rfl) rfl ?_
      refine l_val (v_indexAddrAK (i := 3) (q := 3) rfl rfl (by omega) rfl) rfl ?_
      refine l_eff0 (e_store rfl rfl rfl (by first | trivial | omega)) ?_
      rintro _ _ ⟨rfl, rfl⟩
      refine l_nil ?_
      refine a_normal ?_
      refine w_seq ?_
      refine w_region rfl ?_
      refine l_val (v_loadA rfl rfl) rfl ?_
      refine l_eff (e_call rfl (round_spec { eat (padP xs) k (sinit ks) with d := (eat (padP xs) k (sinit ks)).d ^^^ le ((padP xs).drop (8 * k)) 8 } _)) rfl ?_
      rintro _ _ ⟨rfl, rfl⟩
      refine l_eff0 (e_storeA rfl rfl (by constructor <;> rfl) (by simp [Value.oneCell'])) ?_
      rintro _ _ ⟨rfl, rfl⟩
      refine l_nil ?_
      refine a_normal ?_
      refine w_seq ?_
      refine w_region rfl ?_
      refine l_val (v_loadA rfl rfl) rfl ?_
      refine l_eff (e_call rfl (round_spec (sround { eat (padP xs) k (sinit ks) with d := (eat (padP xs) k (sinit ks)).d ^^^ le ((padP xs).drop (8 * k)) 8 }) _)) rfl ?_
      rintro _ _ ⟨rfl, rfl⟩
      refine l_eff0 (e_storeA rfl rfl (by constructor <;> rfl) (by simp [Value.oneCell'])) ?_
      rintro _ _ ⟨rfl, rfl⟩
      refine l_nil ?_
      refine a_normal ?_
      refine w_region rfl ?_
      refine l_val (v_indexAddrAK (i := 0) (q := 0) rfl rfl (by omega) rfl) rfl ?_
      refine l_val (v_load rfl (by first | trivial | omega)) rfl ?_
      refine l_val (v_move rfl) rfl ?_
      refine l_val (v_xor64 rfl rfl) rfl ?_
      refine l_val (v_indexAddrAK (i := 0) (q := 0) rfl rfl (by omega) rfl) rfl ?_
      refine l_eff0 (e_store rfl rfl rfl (by first | trivial | omega)) ?_
      rintro _ _ ⟨rfl, rfl⟩
      refine l_nil ?_
      refine a_bnormal ?_
      refine a_normal ?_
      refine w_region rfl ?_
      refine l_val (v_move rfl) rfl ?_
      refine l_val (v_addI (j := 8) rfl rfl (by omega)) rfl ?_
      refine l_val (v_assign rfl) rfl ?_
      refine l_nil ?_
      exact a_loop (k + 1) (by omega) (by omega) (.cons rfl (.cons rfl (.cons rfl .nil))) rfl
    · skip
      obtain rfl : k = xs.length / 8 + 1 := by omega
      refine w_exit ?_
      refine a_texit ?_
      refine a_texit ?_
      refine a_bexit ?_
      refine a_normal ?_
      refine w_seq ?_
      refine w_region rfl ?_
      refine l_val (v_indexAddrAK (i := 2) (q := 2) rfl rfl (by omega) rfl) rfl ?_
      refine l_val (v_load rfl (by first | trivial | omega)) rfl ?_
      refine l_val (v_xor64 (b := 255) rfl rfl) rfl ?_
      refine l_val (v_indexAddrAK (i := 2) (q := 2) rfl rfl (by omega) rfl) rfl ?_
      refine l_eff0 (e_store rfl rfl rfl (by first | trivial | omega)) ?_
      rintro _ _ ⟨rfl, rfl⟩
      refine l_nil ?_
      refine a_normal ?_
      refine w_seq ?_
      refine w_seq ?_
      refine w_region rfl ?_
      refine l_val (v_assign (v := .int .i64 (0 : Nat)) rfl) rfl ?_
      refine l_nil ?_
      refine a_normal ?_
      refine w_block ?_
      refine w_loop (fun j : Nat => [(7, ptr b7 0), (11, iN j)]) (fun j => HP.pts b7 0 (s4 (srounds j { eat (padP xs) (xs.length / 8 + 1) (sinit ks) with c := (eat (padP xs) (xs.length / 8 + 1) (sinit ks)).c ^^^ 255 })) * (arr b3 o3 (padP xs) s3 * (HP.pts b39 0 (flat [UInt8.ofNat (xs.length % 256)]) * (HP.pts b2 0 (flat ks) * H))))
        (fun j => j ≤ 4) (fun j => 4 - j) 0 (Nat.zero_le _) (.cons rfl (.cons rfl .nil)) rfl ?_
      intro j hj2
      refine w_seq ?_
      refine w_seq ?_
      refine w_region rfl ?_
      refine l_val (v_move rfl) rfl ?_
      refine l_val (v_lss (j := 4) rfl rfl) rfl ?_
      refine l_nil ?_
      refine a_normal ?_
      refine w_condD rfl (fun hc => ?_) (fun hc => ?_)
      · skip
        refine w_skip ?_
        refine a_normal ?_
        refine w_seq ?_
        refine w_block ?_
        refine w_region rfl ?_
        refine l_val (v_loadA rfl rfl) rfl ?_
        refine l_eff (e_call rfl (round_spec (srounds j { eat (padP xs) (xs.length / 8 + 1) (sinit ks) with c := (eat (padP xs) (xs.length / 8 + 1) (sinit ks)).c ^^^ 255 }) _)) rfl ?_
        rintro _ _ ⟨rfl, rfl⟩
        refine l_eff0 (e_storeA rfl rfl (by constructor <;> rfl) (by simp [Value.oneCell'])) ?_
        rintro _ _ ⟨rfl, rfl⟩
        refine l_nil ?_
        refine a_bnormal ?_
        refine a_normal ?_
        refine w_region rfl ?_
        refine l_val (v_move rfl) rfl ?_
        refine l_val (v_addI (j := 1) rfl rfl (by omega)) rfl ?_
        refine l_val (v_assign rfl) rfl ?_
        refine l_nil ?_
        exact a_loop (j + 1) (by omega) (by omega) (.cons rfl (.cons rfl .nil)) (by rw [srounds_succ])
      · skip
        obtain rfl : j = 4 := by omega
        refine w_exit ?_
        refine a_texit ?_
        refine a_texit ?_
        refine a_bexit ?_
        refine a_normal ?_
        refine w_seq ?_
        refine w_region rfl ?_
        refine l_val (v_indexAddrAK (i := 0) (q := 0) rfl rfl (by omega) rfl) rfl ?_
        refine l_val (v_load rfl (by first | trivial | omega)) rfl ?_
        refine l_val (v_indexAddrAK (i := 1) (q := 1) rfl rfl (by omega) rfl) rfl ?_
        refine l_val (v_load rfl (by first | trivial | omega)) rfl ?_
        refine l_val (v_xor64 rfl rfl) rfl ?_
        refine l_val (v_indexAddrAK (i := 2) (q := 2) rfl rfl (by omega) rfl) rfl ?_
        refine l_val (v_load rfl (by first | trivial | omega)) rfl ?_
        refine l_val (v_xor64 rfl rfl) rfl ?_
        refine l_val (v_indexAddrAK (i := 3) (q := 3) rfl rfl (by omega) rfl) rfl ?_
        refine l_val (v_load rfl (by first | trivial | omega)) rfl ?_
        refine l_val (v_xor64 rfl rfl) rfl ?_
        refine l_val (v_assign rfl) rfl ?_
        refine l_nil ?_
        refine a_normal ?_
        refine w_ret ?_
        exact a_retD (ts := [4]) H rfl rfl ⟨by rw [← sipR_eq]; rfl, rfl⟩

theorem mask_succ (ks : List UInt8) (side : UInt8) (n : UInt64) (xs : List UInt8) (i : Nat) (h : i < xs.length) : xorL xs (strL ks side n (i + 1)) = xorL xs (strL ks side n i) ++ [xs.getD i 0 ^^^ strB ks side n i] := by
  rw [← strL_succ, xorL_snoc _ _ _ (by rw [strL_length]; exact h), strL_length]

set_option maxHeartbeats 1000000 in
theorem rmasked_spec (ks : List UInt8) (hk : ks.length = 16) (sd : Nat) (number : UInt64) (xs : List UInt8) (p : Option Addr) (b o c : Nat) (H : HP) (hs : Sl p b o xs.length c) (hr : RdA B H b o xs) (hx : xs.length < 100000000) :
    Fn Tryd.prog B 26 [.agg (flat ks).toArray, iN sd, u64 number, .slice p xs.length c] H (fun v H' => IsSl H (maskL ks (UInt8.ofNat sd) number xs) v H') := by
  refine fn_intro Tryd.func26 rfl rfl rfl ?_
  refine w_seq ?_
  refine w_region rfl ?_
  refine l_eff (e_box (l := flat ks) rfl rfl) rfl ?_
  rintro _ _ ⟨b4, rfl, rfl⟩
  refine l_val (v_assign rfl) rfl ?_
  refine l_nil ?_
  refine a_normal ?_
  refine w_seq ?_
  refine w_region rfl ?_
  refine l_val (v_assign rfl) rfl ?_
  refine l_nil ?_
  refine a_normal ?_
  refine w_seq ?_
  refine w_seq ?_
  refine w_region rfl ?_
  refine l_val (v_assign (v := .int .i64 (0 : Nat)) rfl) rfl ?_
  refine l_nil ?_
  refine a_normal ?_
  refine w_block ?_
  refine w_loop (α := Nat × Buf) (fun z => [(1, iN sd), (2, u64 number), (3, .slice p xs.length c), (4, ptr b4 0), (9, .slice z.2.1 (xorL xs (strL ks (UInt8.ofNat sd) number z.1)).length z.2.2.2.2.1), (10, iN z.1)])
    (fun z => arr z.2.2.1 z.2.2.2.1 (xorL xs (strL ks (UInt8.ofNat sd) number z.1)) z.2.2.2.2.2 * (HP.pts b4 0 (flat ks) * H)) (fun z => z.1 ≤ xs.length ∧ z.2.ok (xorL xs (strL ks (UInt8.ofNat sd) number z.1)).length) (fun z => xs.length - z.1) (0, none, 0, 0, 0, [])
    ⟨Nat.zero_le _, by rw [show strL ks (UInt8.ofNat sd) number 0 = [] from rfl]; simp [xorL, Buf.ok, Sl]⟩ (.cons rfl (.cons rfl (.cons rfl (.cons rfl (.cons (by rw [show strL ks (UInt8.ofNat sd) number 0 = [] from rfl]; simp [xorL]; rfl) (.cons rfl .nil)))))) (by rw [show strL ks (UInt8.ofNat sd) number 0 = [] from rfl]; simp only [xorL, List.zipWith_nil_right]; rw [arr_nil, HP.emp_mul]) ?_
  rintro ⟨i, q, bq, oq, cq, sq⟩ ⟨hi, hq1, hq2⟩
  dsimp only at hi hq1 hq2 ⊢
  have hxl : (xorL xs (strL ks (UInt8.ofNat sd) number i)).length = i := by rw [xorL_length _ _ (by rw [strL_length]; omega), strL_length]
  have ir := rd_of0 (B := B) hr
  refine w_seq ?_
  refine w_seq ?_
  refine w_region rfl ?_
  refine l_val (v_move rfl) rfl ?_
  refine l_val (v_move rfl) rfl ?_
  refine l_val (v_lenS rfl) rfl ?_
  refine l_val (v_lss rfl rfl) rfl ?_
  refine l_nil ?_
  refine a_normal ?_
  refine w_condD rfl (fun hc => ?_) (fun hc => ?_)
  · skip
    refine w_skip ?_
    refine a_normal ?_
    refine w_seq ?_
    refine w_block ?_
    refine w_seq ?_
    refine w_region rfl ?_
    refine l_val (v_move rfl) rfl ?_
    refine l_val (v_ito8 rfl) rfl ?_
    refine l_eff (e_mk1 rfl rfl (by simp [Value.oneCell']) rfl rfl rfl) rfl ?_
    rintro _ _ ⟨b22, rfl, rfl⟩
    refine l_heap (H' := arr b22 0 [UInt8.ofNat sd, 1] [] * (arr bq oq (xorL xs (strL ks (UInt8.ofNat sd) number i)) sq * (HP.pts b4 0 (flat ks) * H))) rfl ?_
    refine l_val (v_move rfl) rfl ?_
    refine l_eff (e_call rfl (high_spec number (some ⟨b22, 0, none⟩) b22 0 2 [UInt8.ofNat sd, 1] [] _ ⟨.inr rfl, Nat.le_refl _⟩ rfl (by simp))) rfl ?_
    rintro _ _ ⟨p24, b24, o24, c24, s24, rfl, hs24, hc24, rfl⟩
    refine l_val (v_assign rfl) rfl ?_
    refine l_nil ?_
    refine a_normal ?_
    refine w_seq ?_
    refine w_region rfl ?_
    refine l_val (v_move rfl) rfl ?_
    refine l_val (v_move rfl) rfl ?_
    refine l_val (v_quoI (j := 8) rfl rfl (by omega)) rfl ?_
    refine l_val (v_ito8 rfl) rfl ?_
    refine l_eff (e_mk1 rfl rfl (by simp [Value.oneCell']) rfl rfl rfl) rfl ?_
    rintro _ _ ⟨b29, rfl, rfl⟩
    refine l_heap (H' := arr b24 o24 ([UInt8.ofNat sd, 1] ++ bigL number) s24 * (HP.pts b29 0 (flat [UInt8.ofNat (i / 8)]) * (arr bq oq (xorL xs (strL ks (UInt8.ofNat sd) number i)) sq * (HP.pts b4 0 (flat ks) * H)))) (by rw [HP.left_comm]; rfl) ?_
    refine l_eff (e_append (ys := [UInt8.ofNat (i / 8)]) (bb := b29) (oo := 0) rfl hs24 hc24 rfl ⟨.inr rfl, Nat.le_refl _⟩ inferInstance rfl (by simp [bigL]) (by omega)) rfl ?_
    rintro _ _ ⟨p30, b30, o30, c30, s30, rfl, hs30, hc30, rfl⟩
    refine l_val (v_assign rfl) rfl ?_
    refine l_nil ?_
    refine a_normal ?_
    refine w_seq ?_
    refine w_region rfl ?_
    refine l_val (v_loadA rfl (flat16 hk)) rfl ?_
    refine l_val (v_move rfl) rfl ?_
    refine l_eff (e_call rfl (rhash_spec ks (([UInt8.ofNat sd, 1] ++ bigL number) ++ [UInt8.ofNat (i / 8)]) p30 b30 o30 c30 _ hk hs30 inferInstance (by simp [bigL]))) rfl ?_
    rintro _ _ ⟨rfl, rfl⟩
    refine l_val (v_assign rfl) rfl ?_
    refine l_nil ?_
    refine a_normal ?_
    refine w_seq ?_
    refine w_region rfl ?_
    refine l_val (v_move rfl) rfl ?_
    refine l_eff (e_call rfl (high_nil _ _)) rfl ?_
    rintro _ _ ⟨p35, b35, o35, c35, s35, rfl, hs35, hc35, rfl⟩
    refine l_val (v_assign rfl) rfl ?_
    refine l_nil ?_
    refine a_normal ?_
    refine w_ent (arr b35 o35 (bigL (sip ks (([UInt8.ofNat sd, 1] ++ bigL number) ++ [UInt8.ofNat (i / 8)]))) s35 * (arr bq oq (xorL xs (strL ks (UInt8.ofNat sd) number i)) sq * (HP.pts b4 0 (flat ks) * H))) ?_
    refine w_anyH 12 14 mixed rfl (by kernel_rfl) ?_
    refine s_take 0 rfl (by kernel_rfl) rfl (v_move rfl) ?_
    refine s_take 1 rfl (by kernel_rfl) rfl (v_move rfl) ?_
    refine s_take 2 rfl (by kernel_rfl) rfl (v_move rfl) ?_
    refine s_take 3 rfl (by kernel_rfl) rfl (v_indexAddrR rfl rfl (b := b) (o := o) hs hc) ?_
    refine s_take 4 rfl (by kernel_rfl) rfl (v_load rfl hc) ?_
    refine s_take 5 rfl (by kernel_rfl) rfl (v_move rfl) ?_
    refine s_take 6 rfl (by kernel_rfl) rfl (v_move rfl) ?_
    refine s_take 7 rfl (by kernel_rfl) rfl (v_remI (j := 8) rfl rfl (by omega)) ?_
    refine s_take 8 rfl (by kernel_rfl) rfl (v_indexAddrR rfl rfl (b := b35) (o := o35) hs35 (by rw [bigL_length]; omega)) ?_
    refine s_take 9 rfl (by kernel_rfl) rfl (v_load rfl (by rw [bigL_length]; omega)) ?_
    refine s_take 10 rfl (by kernel_rfl) rfl (v_xorB rfl rfl) ?_
    refine s_eff 11 (by kernel_rfl) rfl rfl (e_mk1 rfl rfl (by simp [Value.oneCell']) rfl rfl rfl) ?_
    rintro _ _ ⟨b47, rfl, rfl⟩
    refine ⟨.inr inferInstance, ?_⟩
    refine s_heap (H' := arr bq oq (xorL xs (strL ks (UInt8.ofNat sd) number i)) sq * (HP.pts b47 0 (flat [xs.getD i 0 ^^^ (bigL (sip ks (([UInt8.ofNat sd, 1] ++ bigL number) ++ [UInt8.ofNat (i / 8)]))).getD (i % 8) 0]) * (arr b35 o35 (bigL (sip ks (([UInt8.ofNat sd, 1] ++ bigL number) ++ [UInt8.ofNat (i / 8)]))) s35 * (HP.pts b4 0 (flat ks) * H)))) (by show HP.pts b47 0 (flat [xs.getD i 0 ^^^ (bigL (sip ks (([UInt8.ofNat sd, 1] ++ bigL number) ++ [UInt8.ofNat (i / 8)]))).getD (i % 8) 0]) * _ = _; ac_rfl) ?_
    refine s_eff 12 (by kernel_rfl) rfl rfl (e_append (ys := [xs.getD i 0 ^^^ (bigL (sip ks (([UInt8.ofNat sd, 1] ++ bigL number) ++ [UInt8.ofNat (i / 8)]))).getD (i % 8) 0]) (bb := b47) (oo := 0) rfl hq1 hq2 rfl ⟨.inr rfl, Nat.le_refl _⟩ inferInstance rfl (by rw [hxl]; simp; omega) (by omega)) ?_
    rintro _ _ ⟨q48, b48, o48, c48, s48, rfl, h5, h6, rfl⟩
    refine ⟨.inl (by decide), ?_⟩
    refine s_val 13 (by kernel_rfl) rfl rfl (v_assign rfl) (.inl (by decide)) ?_
    refine s_done (by kernel_rfl) ?_
    refine a_bnormal ?_
    refine a_normal ?_
    refine w_region rfl ?_
    refine l_val (v_move rfl) rfl ?_
    refine l_val (v_addI (j := 1) rfl rfl (by omega)) rfl ?_
    refine l_val (v_assign rfl) rfl ?_
    refine l_nil ?_
    refine a_ent (arr b48 o48 ((xorL xs (strL ks (UInt8.ofNat sd) number i)) ++ [xs.getD i 0 ^^^ (bigL (sip ks (([UInt8.ofNat sd, 1] ++ bigL number) ++ [UInt8.ofNat (i / 8)]))).getD (i % 8) 0]) s48 * (HP.pts b4 0 (flat ks) * H)) ?_
    have e := mask_succ ks (UInt8.ofNat sd) number xs i hc
    exact a_loop (i + 1, q48, b48, o48, c48, s48) ⟨hc, by rw [e]; exact ⟨h5, h6⟩⟩ (by show xs.length - (i + 1) < xs.length - i; omega) (.cons rfl (.cons rfl (.cons rfl (.cons rfl (.cons (by rw [e]; rfl) (.cons rfl .nil)))))) (by simp only [e]; rfl)
  · skip
    obtain rfl : i = xs.length := by omega
    refine w_exit ?_
    refine a_texit ?_
    refine a_texit ?_
    refine a_bexit ?_
    refine a_normal ?_
    refine w_seq ?_
    refine w_region rfl ?_
    refine l_val (v_move rfl) rfl ?_
    refine l_val (v_assign rfl) rfl ?_
    refine l_nil ?_
    refine a_normal ?_
    refine w_ret ?_
    exact a_retD (ts := [8]) (arr bq oq (xorL xs (strL ks (UInt8.ofNat sd) number xs.length)) sq * H) rfl rfl ⟨q, bq, oq, cq, sq, rfl, hq1, hq2, rfl⟩

theorem rtag_spec (ks : List UInt8) (hk : ks.length = 16) (sd : Nat) (number : UInt64) (xs : List UInt8) (p : Option Addr) (b o c : Nat) (H : HP) (hs : Sl p b o xs.length c) (hr : RdA B H b o xs) (hx : xs.length < 90000000) :
    Fn Tryd.prog B 27 [.agg (flat ks).toArray, iN sd, u64 number, .slice p xs.length c] H (fun v H' => IsSl H (tagL ks (UInt8.ofNat sd) number xs) v H') := by
  refine fn_intro Tryd.func27 rfl rfl rfl ?_
  refine w_seq ?_
  refine w_region rfl ?_
  refine l_eff (e_box (l := flat ks) rfl rfl) rfl ?_
  rintro _ _ ⟨b4, rfl, rfl⟩
  refine l_val (v_assign rfl) rfl ?_
  refine l_nil ?_
  refine a_normal ?_
  refine w_seq ?_
  refine w_region rfl ?_
  refine l_val (v_move rfl) rfl ?_
  refine l_val (v_ito8 rfl) rfl ?_
  refine l_eff (e_mk1 rfl rfl (by simp [Value.oneCell']) rfl rfl rfl) rfl ?_
  rintro _ _ ⟨b13, rfl, rfl⟩
  refine l_heap (H' := arr b13 0 [UInt8.ofNat sd, 2] [] * (HP.pts b4 0 (flat ks) * H)) rfl ?_
  refine l_val (v_move rfl) rfl ?_
  refine l_eff (e_call rfl (high_spec number (some ⟨b13, 0, none⟩) b13 0 2 [UInt8.ofNat sd, 2] [] _ ⟨.inr rfl, Nat.le_refl _⟩ rfl (by simp))) rfl ?_
  rintro _ _ ⟨p15, b15, o15, c15, s15, rfl, hs15, hc15, rfl⟩
  refine l_val (v_assign rfl) rfl ?_
  refine l_nil ?_
  refine a_normal ?_
  refine w_seq ?_
  refine w_region rfl ?_
  refine l_val (v_move rfl) rfl ?_
  refine l_val (v_move rfl) rfl ?_
  refine l_eff (e_append (ys := xs) (bb := b) (oo := o) rfl hs15 hc15 rfl hs inferInstance rfl (by simp [bigL]; omega) (by omega)) rfl ?_
  rintro _ _ ⟨p18, b18, o18, c18, s18, rfl, hs18, hc18, rfl⟩
  refine l_val (v_assign rfl) rfl ?_
  refine l_nil ?_
  refine a_normal ?_
  refine w_seq ?_
  refine w_region rfl ?_
  refine l_val (v_loadA rfl (flat16 hk)) rfl ?_
  refine l_val (v_move rfl) rfl ?_
  refine l_eff (e_call rfl (rhash_spec ks ([UInt8.ofNat sd, 2] ++ bigL number ++ xs) p18 b18 o18 c18 _ hk hs18 inferInstance (by simp [bigL]; omega))) rfl ?_
  rintro _ _ ⟨rfl, rfl⟩
  refine l_val (v_assign rfl) rfl ?_
  refine l_nil ?_
  refine a_normal ?_
  refine w_seq ?_
  refine w_region rfl ?_
  refine l_val (v_move rfl) rfl ?_
  refine l_eff (e_call rfl (high_nil _ _)) rfl ?_
  rintro _ _ ⟨p23, b23, o23, c23, s23, rfl, hs23, hc23, rfl⟩
  refine l_val (v_assign rfl) rfl ?_
  refine l_nil ?_
  refine a_normal ?_
  refine w_ret ?_
  exact a_retD (ts := [8]) (arr b23 o23 (bigL (sip ks ([UInt8.ofNat sd, 2] ++ bigL number ++ xs))) s23 * H) rfl rfl ⟨p23, b23, o23, c23, s23, rfl, hs23, hc23, rfl⟩

theorem rseal_spec (ks : List UInt8) (hk : ks.length = 16) (sd : Nat) (number : UInt64) (xs : List UInt8) (p : Option Addr) (b o c : Nat) (H : HP) (hs : Sl p b o xs.length c) (hr : RdA B H b o xs) (hx : xs.length < 90000000) :
    Fn Tryd.prog B 9 [.agg (flat ks).toArray, iN sd, u64 number, .slice p xs.length c] H (fun v H' => IsSl H (sealL ks (UInt8.ofNat sd) number xs) v H') := by
  refine fn_intro Tryd.func9 rfl rfl rfl ?_
  have hml := maskL_length ks (UInt8.ofNat sd) number xs
  refine w_seq ?_
  refine w_region rfl ?_
  refine l_eff (e_box (l := flat ks) rfl rfl) rfl ?_
  rintro _ _ ⟨b4, rfl, rfl⟩
  refine l_val (v_assign rfl) rfl ?_
  refine l_nil ?_
  refine a_normal ?_
  refine w_seq ?_
  refine w_region rfl ?_
  refine l_val (v_move rfl) rfl ?_
  refine l_eff (e_call rfl (high_nil _ _)) rfl ?_
  rintro _ _ ⟨p13, b13, o13, c13, s13, rfl, hs13, hc13, rfl⟩
  refine l_val (v_assign rfl) rfl ?_
  refine l_nil ?_
  refine a_normal ?_
  refine w_seq ?_
  refine w_region rfl ?_
  refine l_val (v_loadA rfl (flat16 hk)) rfl ?_
  refine l_val (v_move rfl) rfl ?_
  refine l_val (v_move rfl) rfl ?_
  refine l_val (v_move rfl) rfl ?_
  refine l_eff (e_call rfl (rmasked_spec ks hk sd number xs p b o c _ hs inferInstance (by omega))) rfl ?_
  rintro _ _ ⟨p18, b18, o18, c18, s18, rfl, hs18, hc18, rfl⟩
  refine l_val (v_assign rfl) rfl ?_
  refine l_nil ?_
  refine a_normal ?_
  refine w_seq ?_
  refine w_region rfl ?_
  refine l_val (v_move rfl) rfl ?_
  refine l_val (v_move rfl) rfl ?_
  refine l_heap (HP.left_comm _ _ _) ?_
  refine l_eff (e_append (ys := maskL ks (UInt8.ofNat sd) number xs) (bb := b18) (oo := o18) rfl hs13 hc13 rfl hs18 inferInstance rfl (by rw [bigL_length]; omega) (by omega)) rfl ?_
  rintro _ _ ⟨p21, b21, o21, c21, s21, rfl, hs21, hc21, rfl⟩
  refine l_val (v_assign rfl) rfl ?_
  refine l_nil ?_
  refine a_normal ?_
  refine w_seq ?_
  refine w_region rfl ?_
  refine l_val (v_loadA rfl (flat16 hk)) rfl ?_
  refine l_val (v_move rfl) rfl ?_
  refine l_val (v_move rfl) rfl ?_
  refine l_val (v_move rfl) rfl ?_
  refine l_eff (e_call rfl (rtag_spec ks hk sd number (maskL ks (UInt8.ofNat sd) number xs) p18 b18 o18 c18 _ hs18 inferInstance (by omega))) rfl ?_
  rintro _ _ ⟨p26, b26, o26, c26, s26, rfl, hs26, hc26, rfl⟩
  refine l_val (v_assign rfl) rfl ?_
  refine l_nil ?_
  refine a_normal ?_
  refine w_seq ?_
  refine w_region rfl ?_
  refine l_val (v_move rfl) rfl ?_
  refine l_val (v_move rfl) rfl ?_
  refine l_heap (HP.left_comm _ _ _) ?_
  refine l_eff (e_append (ys := tagL ks (UInt8.ofNat sd) number (maskL ks (UInt8.ofNat sd) number xs)) (bb := b26) (oo := o26) rfl hs21 hc21 rfl hs26 inferInstance rfl (by rw [List.length_append, bigL_length, tagL_length]; omega) (by omega)) rfl ?_
  rintro _ _ ⟨p29, b29, o29, c29, s29, rfl, hs29, hc29, rfl⟩
  refine l_val (v_assign rfl) rfl ?_
  refine l_nil ?_
  refine a_normal ?_
  refine w_ret ?_
  exact a_retD (ts := [8]) (arr b29 o29 (bigL number ++ maskL ks (UInt8.ofNat sd) number xs ++ tagL ks (UInt8.ofNat sd) number (maskL ks (UInt8.ofNat sd) number xs)) s29 * H) rfl rfl ⟨p29, b29, o29, c29, s29, rfl, hs29, hc29, rfl⟩

def beM (xs : List UInt8) : Nat → UInt64
  | 0 => 0
  | i + 1 => beM xs i * 256 + (xs.getD i 0).toUInt64
theorem shl_or (x : UInt64) (y : UInt8) : x <<< 8 ||| y.toUInt64 = x * 256 + y.toUInt64 := by
  apply UInt64.toNat_inj.1
  have hy := y.toNat_lt
  rw [UInt64.toNat_or, UInt64.toNat_shiftLeft, UInt64.toNat_add, UInt64.toNat_mul, UInt8.toNat_toUInt64, show (8 : UInt64).toNat % 64 = 8 from rfl, show (256 : UInt64).toNat = 256 from rfl, Nat.shiftLeft_eq]
  generalize x.toNat = n
  rw [show n * 2 ^ 8 % 2 ^ 64 = 2 ^ 8 * (n % 2 ^ 56) by rw [show (2 : Nat) ^ 64 = 2 ^ 56 * 2 ^ 8 by decide, Nat.mul_mod_mul_right, Nat.mul_comm], ← Nat.two_pow_add_eq_or_of_lt (by omega : y.toNat < 2 ^ 8)]
  omega
theorem beM_be (xs : List UInt8) : ∀ i, beM xs i = be xs i
  | 0 => rfl
  | i + 1 => by simp only [beM, be, shl_or, beM_be xs i]
theorem bstr_inj {xs ys : List UInt8} : bstr xs = bstr ys ↔ xs = ys := ⟨fun h => by simpa [bstr] using h, fun h => by rw [h]⟩

set_option maxHeartbeats 1000000 in
theorem runseal_spec (ks : List UInt8) (hk : ks.length = 16) (sd : Nat) (xs : List UInt8) (p : Option Addr) (b o c : Nat) (H : HP) (hs : Sl p b o xs.length c) (hr : RdA B H b o xs) (hx : xs.length < 90000000) :
    Fn Tryd.prog B 12 [.agg (flat ks).toArray, iN sd, .slice p xs.length c] H (fun v H' => match openL ks (UInt8.ofNat sd) xs with
      | none => v = .tuple #[u64 0, .slice none 0 0, .bool false] ∧ H' = H
      | some (n, ys) => ∃ sv, v = .tuple #[u64 n, sv, .bool true] ∧ IsSl H ys sv H') := by
  refine fn_intro Tryd.func12 rfl rfl rfl ?_
  refine w_seq ?_
  refine w_region rfl ?_
  refine l_eff (e_box (l := flat ks) rfl rfl) rfl ?_
  rintro _ _ ⟨b3, rfl, rfl⟩
  refine l_val (v_assign (v := .int .u64 (0 : Nat)) rfl) rfl ?_
  refine l_val (v_assign rfl) rfl ?_
  refine l_val (v_assign rfl) rfl ?_
  refine l_nil ?_
  refine a_normal ?_
  refine w_seq ?_
  refine w_seq ?_
  refine w_region rfl ?_
  refine l_val (v_move rfl) rfl ?_
  refine l_val (v_lenS rfl) rfl ?_
  refine l_val (v_lss (j := 16) rfl rfl) rfl ?_
  refine l_val (v_move rfl) rfl ?_
  refine l_case 17 rfl (fun hg1 => ?_) (fun hg1 => ?_)
  · skip
    refine l_gN rfl rfl rfl (decide_eq_true hg1) ?_
    refine l_gN rfl rfl rfl (decide_eq_true hg1) ?_
    refine l_gN rfl rfl rfl (decide_eq_true hg1) ?_
    refine l_val (v_pickY (decide_eq_true hg1) rfl rfl) rfl ?_
    refine l_nil ?_
    refine a_normal ?_
    refine w_condY rfl rfl ?_
    refine w_seq ?_
    refine w_region rfl ?_
    refine l_val (v_assign (v := .int .u64 (0 : Nat)) rfl) rfl ?_
    refine l_val (v_assign rfl) rfl ?_
    refine l_val (v_assign rfl) rfl ?_
    refine l_nil ?_
    refine a_normal ?_
    refine w_ret ?_
    refine a_tret ?_
    exact a_retD (ts := [6, 7, 8]) H rfl rfl (by rw [show openL ks (UInt8.ofNat sd) xs = none from if_pos (by omega)]; exact ⟨rfl, rfl⟩)
  · skip
    refine l_gY rfl rfl rfl (decide_eq_false hg1) ?_
    refine l_val (v_move rfl) rfl ?_
    refine l_gY rfl rfl rfl (decide_eq_false hg1) ?_
    refine l_val (v_lenS rfl) rfl ?_
    refine l_gY rfl rfl rfl (decide_eq_false hg1) ?_
    refine l_val (v_gtr (j := 300) rfl rfl) rfl ?_
    refine l_val (v_pickN (decide_eq_false hg1) rfl rfl) rfl ?_
    refine l_nil ?_
    refine a_normal ?_
    refine w_condD rfl (fun hc => ?_) (fun hc => ?_)
    · skip
      refine w_seq ?_
      refine w_region rfl ?_
      refine l_val (v_assign (v := .int .u64 (0 : Nat)) rfl) rfl ?_
      refine l_val (v_assign rfl) rfl ?_
      refine l_val (v_assign rfl) rfl ?_
      refine l_nil ?_
      refine a_normal ?_
      refine w_ret ?_
      refine a_tret ?_
      exact a_retD (ts := [6, 7, 8]) H rfl rfl (by rw [show openL ks (UInt8.ofNat sd) xs = none from if_pos (by omega)]; exact ⟨rfl, rfl⟩)
    · skip
      have h16 : 16 ≤ xs.length := by omega
      have h300 : xs.length ≤ 300 := by omega
      have hbl : (bodyL xs).length = xs.length - 16 := by simp [bodyL]; omega
      have hop : ¬ (xs.length < 16 ∨ 300 < xs.length) := by omega
      have ir := rd_of0 (B := B) hr
      have hsB : Sl (sp p c 8 1) b (o + 8 * 1) (bodyL xs).length (c - 8) := by
        have := sp_sl (sz := 1) (l := 8) (h := xs.length - 8) hs (by omega) (by have := hs.2; omega)
        rw [hbl, show xs.length - 16 = xs.length - 8 - 8 by omega]; exact this
      have hrB : RdA B H b (o + 8 * 1) (bodyL xs) := hr.sub 8 (xs.length - 8) (by omega)
      have hsT : Sl (sp p c (xs.length - 8) 1) b (o + (xs.length - 8) * 1) (xs.drop (xs.length - 8)).length (c - (xs.length - 8)) := by
        have := sp_sl (sz := 1) (l := xs.length - 8) (h := xs.length) hs (by omega) hs.2
        rw [List.length_drop]; exact this
      have hrT : RdA B H b (o + (xs.length - 8) * 1) (xs.drop (xs.length - 8)) := hr.dropL (xs.length - 8)
      refine w_skip ?_
      refine a_normal ?_
      refine w_seq ?_
      refine w_region rfl ?_
      refine l_val (v_assign (v := .int .u64 (0 : Nat)) rfl) rfl ?_
      refine l_nil ?_
      refine a_normal ?_
      refine w_seq ?_
      refine w_seq ?_
      refine w_region rfl ?_
      refine l_val (v_assign (v := .int .i64 (0 : Nat)) rfl) rfl ?_
      refine l_nil ?_
      refine a_normal ?_
      refine w_block ?_
      refine w_loop (fun j : Nat => [(1, iN sd), (2, .slice p xs.length c), (3, ptr b3 0), (10, iN j), (9, u64 (beM xs j))]) (fun _ => HP.pts b3 0 (flat ks) * H) (fun j => j ≤ 8) (fun j => 8 - j) 0 (Nat.zero_le _)
        (.cons rfl (.cons rfl (.cons rfl (.cons rfl (.cons rfl .nil))))) rfl ?_
      intro j hj
      refine w_seq ?_
      refine w_seq ?_
      refine w_region rfl ?_
      refine l_val (v_move rfl) rfl ?_
      refine l_val (v_lss (j := 8) rfl rfl) rfl ?_
      refine l_nil ?_
      refine a_normal ?_
      refine w_condD rfl (fun hc => ?_) (fun hc => ?_)
      · skip
        refine w_skip ?_
        refine a_normal ?_
        refine w_seq ?_
        refine w_block ?_
        refine w_region rfl ?_
        refine l_val (v_move rfl) rfl ?_
        refine l_val (v_mul64 (b := 256) rfl rfl) rfl ?_
        refine l_val (v_move rfl) rfl ?_
        refine l_val (v_move rfl) rfl ?_
        refine l_val (v_indexAddrR rfl rfl (b := b) (o := o) hs (by omega)) rfl ?_
        refine l_val (v_load rfl (by omega)) rfl ?_
        refine l_val (v_to64 rfl) rfl ?_
        refine l_val (v_add64 rfl rfl) rfl ?_
        refine l_val (v_assign rfl) rfl ?_
        refine l_nil ?_
        refine a_bnormal ?_
        refine a_normal ?_
        refine w_region rfl ?_
        refine l_val (v_move rfl) rfl ?_
        refine l_val (v_addI (j := 1) rfl rfl (by omega)) rfl ?_
        refine l_val (v_assign rfl) rfl ?_
        refine l_nil ?_
        exact a_loop (j + 1) (by omega) (by omega) (.cons rfl (.cons rfl (.cons rfl (.cons rfl (.cons rfl .nil))))) rfl
      · skip
        obtain rfl : j = 8 := by omega
        rw [beM_be]
        refine w_exit ?_
        refine a_texit ?_
        refine a_texit ?_
        refine a_bexit ?_
        refine a_normal ?_
        refine w_seq ?_
        refine w_region rfl ?_
        refine l_val (v_move rfl) rfl ?_
        refine l_val (v_move rfl) rfl ?_
        refine l_val (v_lenS rfl) rfl ?_
        refine l_val (v_subI (j := 8) rfl rfl (by omega)) rfl ?_
        refine l_val (v_sliceSlhk (l := 8) (h := xs.length - 8) (k' := (bodyL xs).length) rfl rfl rfl (by have := hs.2; omega) (by omega)) rfl ?_
        refine l_val (v_assign rfl) rfl ?_
        refine l_nil ?_
        refine a_normal ?_
        refine w_seq ?_
        refine w_region rfl ?_
        refine l_val (v_loadA rfl (flat16 hk)) rfl ?_
        refine l_val (v_move rfl) rfl ?_
        refine l_val (v_move rfl) rfl ?_
        refine l_val (v_move rfl) rfl ?_
        refine l_eff (e_call rfl (rtag_spec ks hk sd (be xs 8) (bodyL xs) (sp p c 8 1) b (o + 8 * 1) (c - 8) _ hsB inferInstance (by omega))) rfl ?_
        rintro _ _ ⟨p43, b43, o43, c43, s43, rfl, hs43, hc43, rfl⟩
        refine l_val (v_assign rfl) rfl ?_
        refine l_nil ?_
        refine a_normal ?_
        refine w_seq ?_
        refine w_seq ?_
        refine w_anyH 13 13 mixed rfl (by kernel_rfl) ?_
        refine s_take 0 rfl (by kernel_rfl) rfl (v_move rfl) ?_
        refine s_take 1 rfl (by kernel_rfl) rfl (v_bytes2str rfl hs43 inferInstance) ?_
        refine s_take 2 rfl (by kernel_rfl) rfl (v_move rfl) ?_
        refine s_take 3 rfl (by kernel_rfl) rfl (v_move rfl) ?_
        refine s_take 4 rfl (by kernel_rfl) rfl (v_lenS rfl) ?_
        refine s_take 5 rfl (by kernel_rfl) rfl (v_subI (j := 8) rfl rfl (by omega)) ?_
        refine s_take 6 rfl (by kernel_rfl) rfl (v_sliceSlk (l := xs.length - 8) (k' := (xs.drop (xs.length - 8)).length) rfl rfl (by omega) (by rw [List.length_drop])) ?_
        refine s_take 7 rfl (by kernel_rfl) rfl (v_bytes2str rfl hsT inferInstance) ?_
        refine s_take 8 rfl (by kernel_rfl) rfl (v_neS rfl rfl) ?_
        refine s_take 9 rfl (by kernel_rfl) rfl (v_move rfl) ?_
        refine s_case 53 rfl (fun hg2 => ?_) (fun hg2 => ?_)
        · skip
          refine s_gN 10 rfl (by kernel_rfl) rfl rfl rfl (decide_eq_true hg2) ?_
          refine s_gN 11 rfl (by kernel_rfl) rfl rfl rfl (decide_eq_true hg2) ?_
          refine s_take 12 rfl (by kernel_rfl) rfl (v_pickY (decide_eq_true hg2) rfl rfl) ?_
          refine s_done (by kernel_rfl) ?_
          refine a_normal ?_
          refine w_condY rfl rfl ?_
          refine w_seq ?_
          refine w_region rfl ?_
          refine l_val (v_assign (v := .int .u64 (0 : Nat)) rfl) rfl ?_
          refine l_val (v_assign rfl) rfl ?_
          refine l_val (v_assign rfl) rfl ?_
          refine l_nil ?_
          refine a_normal ?_
          refine w_ret ?_
          refine a_tret ?_
          exact a_retD (ts := [6, 7, 8]) H rfl rfl (by rw [show openL ks (UInt8.ofNat sd) xs = none from by rw [openL, if_neg hop, if_pos (.inr (fun h => hg2 (bstr_inj.2 h)))]]; exact ⟨rfl, rfl⟩)
        · skip
          refine s_gY 10 rfl (by kernel_rfl) rfl rfl rfl (decide_eq_false hg2) (v_move rfl) ?_
          refine s_gY 11 rfl (by kernel_rfl) rfl rfl rfl (decide_eq_false hg2) (v_gtr (i := (be xs 8).toNat) (j := 4611686018427387903) rfl rfl) ?_
          refine s_take 12 rfl (by kernel_rfl) rfl (v_pickN (decide_eq_false hg2) rfl rfl) ?_
          refine s_done (by kernel_rfl) ?_
          refine a_normal ?_
          refine w_condD rfl (fun hc => ?_) (fun hc => ?_)
          · skip
            refine w_seq ?_
            refine w_region rfl ?_
            refine l_val (v_assign (v := .int .u64 (0 : Nat)) rfl) rfl ?_
            refine l_val (v_assign rfl) rfl ?_
            refine l_val (v_assign rfl) rfl ?_
            refine l_nil ?_
            refine a_normal ?_
            refine w_ret ?_
            refine a_tret ?_
            exact a_retD (ts := [6, 7, 8]) H rfl rfl (by rw [show openL ks (UInt8.ofNat sd) xs = none from by rw [openL, if_neg hop, if_pos (.inl hc)]]; exact ⟨rfl, rfl⟩)
          · skip
            refine w_skip ?_
            refine a_normal ?_
            refine w_seq ?_
            refine w_region rfl ?_
            refine l_val (v_loadA rfl (flat16 hk)) rfl ?_
            refine l_val (v_move rfl) rfl ?_
            refine l_val (v_move rfl) rfl ?_
            refine l_val (v_move rfl) rfl ?_
            refine l_eff (e_call rfl (rmasked_spec ks hk sd (be xs 8) (bodyL xs) (sp p c 8 1) b (o + 8 * 1) (c - 8) _ hsB inferInstance (by omega))) rfl ?_
            rintro _ _ ⟨p61, b61, o61, c61, s61, rfl, hs61, hc61, rfl⟩
            refine l_val (v_assign rfl) rfl ?_
            refine l_nil ?_
            refine a_normal ?_
            refine w_seq ?_
            refine w_region rfl ?_
            refine l_val (v_move rfl) rfl ?_
            refine l_val (v_move rfl) rfl ?_
            refine l_val (v_assign rfl) rfl ?_
            refine l_val (v_assign rfl) rfl ?_
            refine l_val (v_assign rfl) rfl ?_
            refine l_nil ?_
            refine a_normal ?_
            refine w_ret ?_
            exact a_retD (ts := [6, 7, 8]) (arr b61 o61 (maskL ks (UInt8.ofNat sd) (be xs 8) (bodyL xs)) s61 * H) rfl rfl (by rw [show openL ks (UInt8.ofNat sd) xs = some (be xs 8, maskL ks (UInt8.ofNat sd) (be xs 8) (bodyL xs)) by rw [openL, if_neg hop, if_neg (fun h => h.elim hc (fun h => hg2 (fun h2 => h (bstr_inj.1 h2))))]]; exact ⟨_, rfl, p61, b61, o61, c61, s61, rfl, hs61, hc61, rfl⟩)
end Go.Proofs.YtgfdlpcdjklcoaaDoor
