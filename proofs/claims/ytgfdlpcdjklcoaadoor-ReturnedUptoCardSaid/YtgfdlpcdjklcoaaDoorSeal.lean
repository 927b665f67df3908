/- Contracts of package seal: the hash; no condition. -/
import Derived.Test.YtgfdlpcdjklcoaaDoorFacts
namespace Go.Proofs.YtgfdlpcdjklcoaaDoor
open Go Go.RowKit
set_option linter.unusedVariables false
set_option maxRecDepth 20000
variable {B : World}

theorem rot_spec (x : UInt64) (k : Nat) (hk : 0 < k ∧ k < 64) (H : HP) : Fn Tryd.prog B 54 [u64 x, iN k] H (fun v H' => v = u64 (rotl x k) ∧ H' = H) := by
  refine fn_intro Tryd.func54 rfl rfl rfl ?_
  have h63 : k &&& 63 = k := by rw [Nat.and_two_pow_sub_one_eq_mod k 6]; omega
  refine w_seq ?_
  refine w_region rfl ?_
  refine l_val (v_assign (v := .int .u64 (0 : Nat)) rfl) rfl ?_
  refine l_nil ?_
  refine a_normal ?_
  refine w_seq ?_
  refine w_region rfl ?_
  refine l_val (v_move rfl) rfl ?_
  refine l_val (v_conv rfl (fit_u64 (by omega))) rfl ?_
  refine l_val (v_andU (j := 63) rfl rfl (by constructor <;> first | omega | exact Nat.lt_of_le_of_lt (Nat.div_le_self ..) (by omega))) rfl ?_
  refine l_val (v_assign rfl) rfl ?_
  refine l_nil ?_
  refine a_normal ?_
  refine w_seq ?_
  refine w_region rfl ?_
  refine l_val (v_move rfl) rfl ?_
  refine l_val (v_move rfl) rfl ?_
  refine l_val (v_shl64 rfl rfl (by omega)) rfl ?_
  refine l_val (v_move rfl) rfl ?_
  refine l_val (v_move rfl) rfl ?_
  refine l_val (v_subU (i := 64) rfl rfl (by omega)) rfl ?_
  refine l_val (v_shr64 rfl rfl (by omega)) rfl ?_
  refine l_val (v_or64 rfl rfl) rfl ?_
  refine l_val (v_assign rfl) rfl ?_
  refine l_nil ?_
  refine a_normal ?_
  refine w_ret ?_
  exact a_ret (ts := [4]) rfl rfl ⟨by simp only [h63]; rfl, rfl⟩

set_option maxHeartbeats 1000000 in
theorem mix_spec (b k : Nat) (hk : k < 1000) (v : S4) (R : HP) : Fn Tryd.prog B 40 [ptr b 0, iN k] (HP.pts b 0 (s4 v) * R) (fun r H' => r = .tuple #[] ∧ H' = HP.pts b 0 (s4 (srounds k v)) * R) := by
  refine fn_intro Tryd.func40 rfl rfl rfl ?_
  refine w_seq ?_
  refine w_region rfl ?_
  refine l_val (v_move rfl) rfl ?_
  refine l_val (v_move (v := .int .i64 (0 : Nat)) rfl) rfl ?_
  refine l_nil ?_
  refine a_normal ?_
  refine w_block ?_
  refine w_loop (fun j : Nat => [(0, ptr b 0), (4, iN k), (5, iN j)]) (fun j => HP.pts b 0 (s4 (srounds j v)) * R) (fun j => j ≤ k) (fun j => k - j) 0 (Nat.zero_le _) (.cons rfl (.cons rfl (.cons rfl .nil))) rfl ?_
  intro j hj
  refine w_seq ?_
  refine w_region rfl ?_
  refine l_val (v_lss rfl rfl) rfl ?_
  refine l_nil ?_
  refine a_normal ?_
  refine w_seq ?_
  refine w_condD rfl (fun hc => ?_) (fun hc => ?_)
  · skip
    refine w_skip ?_
    refine a_normal ?_
    refine w_seq ?_
    refine w_block ?_
    refine w_seq ?_
    refine w_anyH 11 12 mixed rfl (by kernel_rfl) ?_
    refine s_take 0 rfl (by kernel_rfl) rfl (v_move rfl) ?_
    refine s_take 1 rfl (by kernel_rfl) rfl (v_nilCheck rfl) ?_
    refine s_take 2 rfl (by kernel_rfl) rfl (v_indexAddrAK (i := 0) (q := 0) rfl rfl (by omega) rfl) ?_
    refine s_take 3 rfl (by kernel_rfl) rfl (v_load rfl (by first | trivial | omega)) ?_
    refine s_take 4 rfl (by kernel_rfl) rfl (v_move rfl) ?_
    refine s_take 5 rfl (by kernel_rfl) rfl (v_nilCheck rfl) ?_
    refine s_take 6 rfl (by kernel_rfl) rfl (v_indexAddrAK (i := 1) (q := 1) rfl rfl (by omega) rfl) ?_
    refine s_take 7 rfl (by kernel_rfl) rfl (v_load rfl (by first | trivial | omega)) ?_
    refine s_take 8 rfl (by kernel_rfl) rfl (v_add64 rfl rfl) ?_
    refine s_take 9 rfl (by kernel_rfl) rfl (v_nilCheck rfl) ?_
    refine s_take 10 rfl (by kernel_rfl) rfl (v_indexAddrAK (i := 0) (q := 0) rfl rfl (by omega) rfl) ?_
    refine s_eff0 11 (by kernel_rfl) rfl (e_store rfl rfl rfl (by first | trivial | omega)) ?_
    rintro _ _ ⟨rfl, rfl⟩
    refine ⟨.inl (by decide), ?_⟩
    refine s_done (by kernel_rfl) ?_
    refine a_normal ?_
    refine w_seq ?_
    refine w_anyH 13 14 mixed rfl (by kernel_rfl) ?_
    refine s_take 0 rfl (by kernel_rfl) rfl (v_move rfl) ?_
    refine s_take 1 rfl (by kernel_rfl) rfl (v_move rfl) ?_
    refine s_take 2 rfl (by kernel_rfl) rfl (v_nilCheck rfl) ?_
    refine s_take 3 rfl (by kernel_rfl) rfl (v_indexAddrAK (i := 1) (q := 1) rfl rfl (by omega) rfl) ?_
    refine s_take 4 rfl (by kernel_rfl) rfl (v_load rfl (by first | trivial | omega)) ?_
    refine s_take 6 rfl (by kernel_rfl) rfl (v_move rfl) ?_
    refine s_take 7 rfl (by kernel_rfl) rfl (v_nilCheck rfl) ?_
    refine s_take 8 rfl (by kernel_rfl) rfl (v_indexAddrAK (i := 0) (q := 0) rfl rfl (by omega) rfl) ?_
    refine s_take 9 rfl (by kernel_rfl) rfl (v_load rfl (by first | trivial | omega)) ?_
    refine s_take 11 rfl (by kernel_rfl) rfl (v_nilCheck rfl) ?_
    refine s_eff 5 (by kernel_rfl) rfl rfl (e_call rfl (rot_spec _ 13 (by decide) _)) ?_
    rintro _ _ ⟨rfl, rfl⟩
    refine ⟨.inr inferInstance, ?_⟩
    refine s_take 10 rfl (by kernel_rfl) rfl (v_xor64 rfl rfl) ?_
    refine s_take 12 rfl (by kernel_rfl) rfl (v_indexAddrAK (i := 1) (q := 1) rfl rfl (by omega) rfl) ?_
    refine s_eff0 13 (by kernel_rfl) rfl (e_store rfl rfl rfl (by first | trivial | omega)) ?_
    rintro _ _ ⟨rfl, rfl⟩
    refine ⟨.inl (by decide), ?_⟩
    refine s_done (by kernel_rfl) ?_
    refine a_normal ?_
    refine w_seq ?_
    refine w_anyH 8 9 mixed rfl (by kernel_rfl) ?_
    refine s_take 0 rfl (by kernel_rfl) rfl (v_move rfl) ?_
    refine s_take 1 rfl (by kernel_rfl) rfl (v_move rfl) ?_
    refine s_take 2 rfl (by kernel_rfl) rfl (v_nilCheck rfl) ?_
    refine s_take 3 rfl (by kernel_rfl) rfl (v_indexAddrAK (i := 0) (q := 0) rfl rfl (by omega) rfl) ?_
    refine s_take 4 rfl (by kernel_rfl) rfl (v_load rfl (by first | trivial | omega)) ?_
    refine s_take 6 rfl (by kernel_rfl) rfl (v_nilCheck rfl) ?_
    refine s_eff 5 (by kernel_rfl) rfl rfl (e_call rfl (rot_spec _ 32 (by decide) _)) ?_
    rintro _ _ ⟨rfl, rfl⟩
    refine ⟨.inr inferInstance, ?_⟩
    refine s_take 7 rfl (by kernel_rfl) rfl (v_indexAddrAK (i := 0) (q := 0) rfl rfl (by omega) rfl) ?_
    refine s_eff0 8 (by kernel_rfl) rfl (e_store rfl rfl rfl (by first | trivial | omega)) ?_
    rintro _ _ ⟨rfl, rfl⟩
    refine ⟨.inl (by decide), ?_⟩
    refine s_done (by kernel_rfl) ?_
    refine a_normal ?_
    refine w_seq ?_
    refine w_anyH 11 12 mixed rfl (by kernel_rfl) ?_
    refine s_take 0 rfl (by kernel_rfl) rfl (v_move rfl) ?_
    refine s_take 1 rfl (by kernel_rfl) rfl (v_nilCheck rfl) ?_
    refine s_take 2 rfl (by kernel_rfl) rfl (v_indexAddrAK (i := 2) (q := 2) rfl rfl (by omega) rfl) ?_
    refine s_take 3 rfl (by kernel_rfl) rfl (v_load rfl (by first | trivial | omega)) ?_
    refine s_take 4 rfl (by kernel_rfl) rfl (v_move rfl) ?_
    refine s_take 5 rfl (by kernel_rfl) rfl (v_nilCheck rfl) ?_
    refine s_take 6 rfl (by kernel_rfl) rfl (v_indexAddrAK (i := 3) (q := 3) rfl rfl (by omega) rfl) ?_
    refine s_take 7 rfl (by kernel_rfl) rfl (v_load rfl (by first | trivial | omega)) ?_
    refine s_take 8 rfl (by kernel_rfl) rfl (v_add64 rfl rfl) ?_
    refine s_take 9 rfl (by kernel_rfl) rfl (v_nilCheck rfl) ?_
    refine s_take 10 rfl (by kernel_rfl) rfl (v_indexAddrAK (i := 2) (q := 2) rfl rfl (by omega) rfl) ?_
    refine s_eff0 11 (by kernel_rfl) rfl (e_store rfl rfl rfl (by first | trivial | omega)) ?_
    rintro _ _ ⟨rfl, rfl⟩
    refine ⟨.inl (by decide), ?_⟩
    refine s_done (by kernel_rfl) ?_
    refine a_normal ?_
    refine w_seq ?_
    refine w_anyH 13 14 mixed rfl (by kernel_rfl) ?_
    refine s_take 0 rfl (by kernel_rfl) rfl (v_move rfl) ?_
    refine s_take 1 rfl (by kernel_rfl) rfl (v_move rfl) ?_
    refine s_take 2 rfl (by kernel_rfl) rfl (v_nilCheck rfl) ?_
    refine s_take 3 rfl (by kernel_rfl) rfl (v_indexAddrAK (i := 3) (q := 3) rfl rfl (by omega) rfl) ?_
    refine s_take 4 rfl (by kernel_rfl) rfl (v_load rfl (by first | trivial | omega)) ?_
    refine s_take 6 rfl (by kernel_rfl) rfl (v_move rfl) ?_
    refine s_take 7 rfl (by kernel_rfl) rfl (v_nilCheck rfl) ?_
    refine s_take 8 rfl (by kernel_rfl) rfl (v_indexAddrAK (i := 2) (q := 2) rfl rfl (by omega) rfl) ?_
    refine s_take 9 rfl (by kernel_rfl) rfl (v_load rfl (by first | trivial | omega)) ?_
    refine s_take 11 rfl (by kernel_rfl) rfl (v_nilCheck rfl) ?_
    refine s_eff 5 (by kernel_rfl) rfl rfl (e_call rfl (rot_spec _ 16 (by decide) _)) ?_
    rintro _ _ ⟨rfl, rfl⟩
    refine ⟨.inr inferInstance, ?_⟩
    refine s_take 10 rfl (by kernel_rfl) rfl (v_xor64 rfl rfl) ?_
    refine s_take 12 rfl (by kernel_rfl) rfl (v_indexAddrAK (i := 3) (q := 3) rfl rfl (by omega) rfl) ?_
    refine s_eff0 13 (by kernel_rfl) rfl (e_store rfl rfl rfl (by first | trivial | omega)) ?_
    rintro _ _ ⟨rfl, rfl⟩
    refine ⟨.inl (by decide), ?_⟩
    refine s_done (by kernel_rfl) ?_
    refine a_normal ?_
    refine w_seq ?_
    refine w_anyH 11 12 mixed rfl (by kernel_rfl) ?_
    refine s_take 0 rfl (by kernel_rfl) rfl (v_move rfl) ?_
    refine s_take 1 rfl (by kernel_rfl) rfl (v_nilCheck rfl) ?_
    refine s_take 2 rfl (by kernel_rfl) rfl (v_indexAddrAK (i := 0) (q := 0) rfl rfl (by omega) rfl) ?_
    refine s_take 3 rfl (by kernel_rfl) rfl (v_load rfl (by first | trivial | omega)) ?_
    refine s_take 4 rfl (by kernel_rfl) rfl (v_move rfl) ?_
    refine s_take 5 rfl (by kernel_rfl) rfl (v_nilCheck rfl) ?_
    refine s_take 6 rfl (by kernel_rfl) rfl (v_indexAddrAK (i := 3) (q := 3) rfl rfl (by omega) rfl) ?_
    refine s_take 7 rfl (by kernel_rfl) rfl (v_load rfl (by first | trivial | omega)) ?_
    refine s_take 8 rfl (by kernel_rfl) rfl (v_add64 rfl rfl) ?_
    refine s_take 9 rfl (by kernel_rfl) rfl (v_nilCheck rfl) ?_
    refine s_take 10 rfl (by kernel_rfl) rfl (v_indexAddrAK (i := 0) (q := 0) rfl rfl (by omega) rfl) ?_
    refine s_eff0 11 (by kernel_rfl) rfl (e_store rfl rfl rfl (by first | trivial | omega)) ?_
    rintro _ _ ⟨rfl, rfl⟩
    refine ⟨.inl (by decide), ?_⟩
    refine s_done (by kernel_rfl) ?_
    refine a_normal ?_
    refine w_seq ?_
    refine w_anyH 13 14 mixed rfl (by kernel_rfl) ?_
    refine s_take 0 rfl (by kernel_rfl) rfl (v_move rfl) ?_
    refine s_take 1 rfl (by kernel_rfl) rfl (v_move rfl) ?_
    refine s_take 2 rfl (by kernel_rfl) rfl (v_nilCheck rfl) ?_
    refine s_take 3 rfl (by kernel_rfl) rfl (v_indexAddrAK (i := 3) (q := 3) rfl rfl (by omega) rfl) ?_
    refine s_take 4 rfl (by kernel_rfl) rfl (v_load rfl (by first | trivial | omega)) ?_
    refine s_take 6 rfl (by kernel_rfl) rfl (v_move rfl) ?_
    refine s_take 7 rfl (by kernel_rfl) rfl (v_nilCheck rfl) ?_
    refine s_take 8 rfl (by kernel_rfl) rfl (v_indexAddrAK (i := 0) (q := 0) rfl rfl (by omega) rfl) ?_
    refine s_take 9 rfl (by kernel_rfl) rfl (v_load rfl (by first | trivial | omega)) ?_
    refine s_take 11 rfl (by kernel_rfl) rfl (v_nilCheck rfl) ?_
    refine s_eff 5 (by kernel_rfl) rfl rfl (e_call rfl (rot_spec _ 21 (by decide) _)) ?_
    rintro _ _ ⟨rfl, rfl⟩
    refine ⟨.inr inferInstance, ?_⟩
    refine s_take 10 rfl (by kernel_rfl) rfl (v_xor64 rfl rfl) ?_
    refine s_take 12 rfl (by kernel_rfl) rfl (v_indexAddrAK (i := 3) (q := 3) rfl rfl (by omega) rfl) ?_
    refine s_eff0 13 (by kernel_rfl) rfl (e_store rfl rfl rfl (by first | trivial | omega)) ?_
    rintro _ _ ⟨rfl, rfl⟩
    refine ⟨.inl (by decide), ?_⟩
    refine s_done (by kernel_rfl) ?_
    refine a_normal ?_
    refine w_seq ?_
    refine w_anyH 11 12 mixed rfl (by kernel_rfl) ?_
    refine s_take 0 rfl (by kernel_rfl) rfl (v_move rfl) ?_
    refine s_take 1 rfl (by kernel_rfl) rfl (v_nilCheck rfl) ?_
    refine s_take 2 rfl (by kernel_rfl) rfl (v_indexAddrAK (i := 2) (q := 2) rfl rfl (by omega) rfl) ?_
    refine s_take 3 rfl (by kernel_rfl) rfl (v_load rfl (by first | trivial | omega)) ?_
    refine s_take 4 rfl (by kernel_rfl) rfl (v_move rfl) ?_
    refine s_take 5 rfl (by kernel_rfl) rfl (v_nilCheck rfl) ?_
    refine s_take 6 rfl (by kernel_rfl) rfl (v_indexAddrAK (i := 1) (q := 1) rfl rfl (by omega) rfl) ?_
    refine s_take 7 rfl (by kernel_rfl) rfl (v_load rfl (by first | trivial | omega)) ?_
    refine s_take 8 rfl (by kernel_rfl) rfl (v_add64 rfl rfl) ?_
    refine s_take 9 rfl (by kernel_rfl) rfl (v_nilCheck rfl) ?_
    refine s_take 10 rfl (by kernel_rfl) rfl (v_indexAddrAK (i := 2) (q := 2) rfl rfl (by omega) rfl) ?_
    refine s_eff0 11 (by kernel_rfl) rfl (e_store rfl rfl rfl (by first | trivial | omega)) ?_
    rintro _ _ ⟨rfl, rfl⟩
    refine ⟨.inl (by decide), ?_⟩
    refine s_done (by kernel_rfl) ?_
    refine a_normal ?_
    refine w_seq ?_
    refine w_anyH 13 14 mixed rfl (by kernel_rfl) ?_
    refine s_take 0 rfl (by kernel_rfl) rfl (v_move rfl) ?_
    refine s_take 1 rfl (by kernel_rfl) rfl (v_move rfl) ?_
    refine s_take 2 rfl (by kernel_rfl) rfl (v_nilCheck rfl) ?_
    refine s_take 3 rfl (by kernel_rfl) rfl (v_indexAddrAK (i := 1) (q := 1) rfl rfl (by omega) rfl) ?_
    refine s_take 4 rfl (by kernel_rfl) rfl (v_load rfl (by first | trivial | omega)) ?_
    refine s_take 6 rfl (by kernel_rfl) rfl (v_move rfl) ?_
    refine s_take 7 rfl (by kernel_rfl) rfl (v_nilCheck rfl) ?_
    refine s_take 8 rfl (by kernel_rfl) rfl (v_indexAddrAK (i := 2) (q := 2) rfl rfl (by omega) rfl) ?_
    refine s_take 9 rfl (by kernel_rfl) rfl (v_load rfl (by first | trivial | omega)) ?_
    refine s_take 11 rfl (by kernel_rfl) rfl (v_nilCheck rfl) ?_
    refine s_eff 5 (by kernel_rfl) rfl rfl (e_call rfl (rot_spec _ 17 (by decide) _)) ?_
    rintro _ _ ⟨rfl, rfl⟩
    refine ⟨.inr inferInstance, ?_⟩
    refine s_take 10 rfl (by kernel_rfl) rfl (v_xor64 rfl rfl) ?_
    refine s_take 12 rfl (by kernel_rfl) rfl (v_indexAddrAK (i := 1) (q := 1) rfl rfl (by omega) rfl) ?_
    refine s_eff0 13 (by kernel_rfl) rfl (e_store rfl rfl rfl (by first | trivial | omega)) ?_
    rintro _ _ ⟨rfl, rfl⟩
    refine ⟨.inl (by decide), ?_⟩
    refine s_done (by kernel_rfl) ?_
    refine a_normal ?_
    refine w_anyH 8 9 mixed rfl (by kernel_rfl) ?_
    refine s_take 0 rfl (by kernel_rfl) rfl (v_move rfl) ?_
    refine s_take 1 rfl (by kernel_rfl) rfl (v_move rfl) ?_
    refine s_take 2 rfl (by kernel_rfl) rfl (v_nilCheck rfl) ?_
    refine s_take 3 rfl (by kernel_rfl) rfl (v_indexAddrAK (i := 2) (q := 2) rfl rfl (by omega) rfl) ?_
    refine s_take 4 rfl (by kernel_rfl) rfl (v_load rfl (by first | trivial | omega)) ?_
    refine s_take 6 rfl (by kernel_rfl) rfl (v_nilCheck rfl) ?_
    refine s_eff 5 (by kernel_rfl) rfl rfl (e_call rfl (rot_spec _ 32 (by decide) _)) ?_
    rintro _ _ ⟨rfl, rfl⟩
    refine ⟨.inr inferInstance, ?_⟩
    refine s_take 7 rfl (by kernel_rfl) rfl (v_indexAddrAK (i := 2) (q := 2) rfl rfl (by omega) rfl) ?_
    refine s_eff0 8 (by kernel_rfl) rfl (e_store rfl rfl rfl (by first | trivial | omega)) ?_
    rintro _ _ ⟨rfl, rfl⟩
    refine ⟨.inl (by decide), ?_⟩
    refine s_done (by kernel_rfl) ?_
    refine a_bnormal ?_
    refine a_normal ?_
    refine w_region rfl ?_
    refine l_val (v_addI (j := 1) rfl rfl (by omega)) rfl ?_
    refine l_val (v_move rfl) rfl ?_
    refine l_nil ?_
    exact a_loop (j + 1) (by omega) (by omega) (.cons rfl (.cons rfl (.cons rfl .nil))) (by rw [srounds_succ]; rfl)
  · skip
    obtain rfl : j = k := by omega
    refine w_exit ?_
    refine a_texit ?_
    refine a_texit ?_
    refine a_bexit ?_
    exact a_end (ts := []) rfl rfl ⟨rfl, rfl⟩

theorem little_spec (p : Option Addr) (b o c : Nat) (xs : List UInt8) (H : HP) (hs : Sl p b o xs.length c) (hr : RdA B H b o xs) (h8 : 8 ≤ xs.length) :
    Fn Tryd.prog B 38 [.slice p xs.length c] H (fun v H' => v = u64 (le xs 8) ∧ H' = H) := by
  refine fn_intro Tryd.func38 rfl rfl rfl ?_
  have ir := rd_of0 (B := B) hr
  have hlen := hs.2
  refine w_seq ?_
  refine w_region rfl ?_
  refine l_val (v_assign (v := .int .u64 (0 : Nat)) rfl) rfl ?_
  refine l_nil ?_
  refine a_normal ?_
  refine w_seq ?_
  refine w_seq ?_
  refine w_region rfl ?_
  refine l_val (v_move rfl) rfl ?_
  refine l_val (v_sliceSh (h := 8) rfl rfl (by omega)) rfl ?_
  refine l_val (v_lenS rfl) rfl ?_
  refine l_val (v_move (v := .int .i64 (0 : Nat)) rfl) rfl ?_
  refine l_nil ?_
  refine a_normal ?_
  refine w_block ?_
  refine w_loop (fun j : Nat => [(2, u64 (le xs j)), (6, .slice p 8 c), (7, iN 8), (8, iN j)]) (fun _ => H) (fun j => j ≤ 8) (fun j => 8 - j) 0 (Nat.zero_le _) (.cons rfl (.cons rfl (.cons rfl (.cons rfl .nil)))) rfl ?_
  intro j hj
  refine w_seq ?_
  refine w_region rfl ?_
  refine l_val (v_lss rfl rfl) rfl ?_
  refine l_nil ?_
  refine a_normal ?_
  refine w_seq ?_
  refine w_condD rfl (fun hc => ?_) (fun hc => ?_)
  · skip
    refine w_skip ?_
    refine a_normal ?_
    refine w_seq ?_
    refine w_block ?_
    refine w_seq ?_
    refine w_region rfl ?_
    refine l_val (v_move rfl) rfl ?_
    refine l_val (v_indexAddrR rfl rfl (b := b) (o := o) ⟨hs.1, by omega⟩ (by omega)) rfl ?_
    refine l_val (v_load rfl (by first | trivial | omega)) rfl ?_
    refine l_val (v_assign rfl) rfl ?_
    refine l_val (v_assign rfl) rfl ?_
    refine l_nil ?_
    refine a_normal ?_
    refine w_region rfl ?_
    refine l_val (v_move rfl) rfl ?_
    refine l_val (v_move rfl) rfl ?_
    refine l_val (v_to64 rfl) rfl ?_
    refine l_val (v_move rfl) rfl ?_
    refine l_val (v_mulI (i := 8) rfl rfl (by omega)) rfl ?_
    refine l_val (v_shl64 rfl rfl (by omega)) rfl ?_
    refine l_val (v_or64 rfl rfl) rfl ?_
    refine l_val (v_assign rfl) rfl ?_
    refine l_nil ?_
    refine a_bnormal ?_
    refine a_normal ?_
    refine w_region rfl ?_
    refine l_val (v_addI (j := 1) rfl rfl (by omega)) rfl ?_
    refine l_val (v_move rfl) rfl ?_
    refine l_nil ?_
    exact a_loop (j + 1) (by omega) (by omega) (.cons rfl (.cons rfl (.cons rfl (.cons rfl .nil)))) rfl
  · skip
    obtain rfl : j = 8 := by omega
    refine w_exit ?_
    refine a_texit ?_
    refine a_texit ?_
    refine a_bexit ?_
    refine a_normal ?_
    refine w_seq ?_
    refine w_region rfl ?_
    refine l_val (v_move rfl) rfl ?_
    refine l_val (v_assign rfl) rfl ?_
    refine l_nil ?_
    refine a_normal ?_
    refine w_ret ?_
    exact a_ret (ts := [2]) rfl rfl ⟨rfl, rfl⟩

def sword (m : UInt64) (v : S4) : S4 :=
  let v := srounds 2 { v with d := v.d ^^^ m }
  { v with a := v.a ^^^ m }

theorem word_spec (b : Nat) (v : S4) (m : UInt64) (R : HP) : Fn Tryd.prog B 39 [u64 m, ptr b 0] (HP.pts b 0 (s4 v) * R) (fun r H' => r = .tuple #[] ∧ H' = HP.pts b 0 (s4 (sword m v)) * R) := by
  refine fn_intro Tryd.func39 rfl rfl rfl ?_
  refine w_seq ?_
  refine w_region rfl ?_
  refine l_val (v_indexAddrAK (i := 3) (q := 3) rfl rfl (by omega) rfl) rfl ?_
  refine l_val (v_load rfl (by first | trivial | omega)) rfl ?_
  refine l_val (v_move rfl) rfl ?_
  refine l_val (v_xor64 rfl rfl) rfl ?_
  refine l_val (v_indexAddrAK (i := 3) (q := 3) rfl rfl (by omega) rfl) rfl ?_
  refine l_eff0 (e_store rfl rfl rfl (by first | trivial | omega)) ?_
  rintro _ _ ⟨rfl, rfl⟩
  refine l_nil ?_
  refine a_normal ?_
  refine w_seq ?_
  refine w_region rfl ?_
  refine l_eff (e_call rfl (mix_spec b 2 (by decide) ⟨v.a, v.b, v.c, v.d ^^^ m⟩ R)) rfl ?_
  rintro _ _ ⟨rfl, rfl⟩
  refine l_nil ?_
  refine a_normal ?_
  refine w_region rfl ?_
  refine l_val (v_indexAddrAK (i := 0) (q := 0) rfl rfl (by omega) rfl) rfl ?_
  refine l_val (v_load rfl (by first | trivial | omega)) rfl ?_
  refine l_val (v_move rfl) rfl ?_
  refine l_val (v_xor64 rfl rfl) rfl ?_
  refine l_val (v_indexAddrAK (i := 0) (q := 0) rfl rfl (by omega) rfl) rfl ?_
  refine l_eff0 (e_store rfl rfl rfl (by first | trivial | omega)) ?_
  rintro _ _ ⟨rfl, rfl⟩
  refine l_nil ?_
  exact a_end (ts := []) rfl rfl ⟨rfl, rfl⟩

def sinit (ks : List UInt8) : S4 := ⟨le ks 8 ^^^ 8317987319222330741, le (ks.drop 8) 8 ^^^ 7237128888997146477, le ks 8 ^^^ 7816392313619706465, le (ks.drop 8) 8 ^^^ 8387220255154660723⟩
def eat (xs : List UInt8) : Nat → S4 → S4
  | 0, v => v
  | k + 1, v => sword (le (xs.drop (8 * k)) 8) (eat xs k v)
def pad8 (ys : List UInt8) : List UInt8 := ys ++ List.replicate (8 - ys.length) 0
def lastW (xs : List UInt8) : List UInt8 := (pad8 (xs.drop (8 * (xs.length / 8)))).set 7 (UInt8.ofNat xs.length)
def sip (ks xs : List UInt8) : UInt64 :=
  let v := sword (le (lastW xs) 8) (eat xs (xs.length / 8) (sinit ks))
  let v := srounds 4 { v with c := v.c ^^^ 255 }
  v.a ^^^ v.b ^^^ v.c ^^^ v.d
theorem pad_copy (ys : List UInt8) (h : ys.length < 8) : flat (ys.take (min ys.length 7)) ++ ([.int .u8 0, .int .u8 0, .int .u8 0, .int .u8 0, .int .u8 0, .int .u8 0, .int .u8 0, .int .u8 0] : List Value).drop (min ys.length 7 * 1) = flat (pad8 ys) := by
  rw [show min ys.length 7 = ys.length by omega, List.take_length, pad8, flat_append]
  congr 1
  rw [Nat.mul_one]
  have : ys.length = 0 ∨ ys.length = 1 ∨ ys.length = 2 ∨ ys.length = 3 ∨ ys.length = 4 ∨ ys.length = 5 ∨ ys.length = 6 ∨ ys.length = 7 := by omega
  rcases this with h | h | h | h | h | h | h | h <;> rw [h] <;> rfl

set_option maxHeartbeats 1000000 in
theorem hash_spec (ks xs : List UInt8) (p : Option Addr) (b o c : Nat) (H : HP) (hk : ks.length = 16) (hs : Sl p b o xs.length c) (hr : RdA B H b o xs) (hx : xs.length < 100000000) :
    Fn Tryd.prog B 20 [.agg (flat ks).toArray, .slice p xs.length c] H (fun v H' => v = u64 (sip ks xs) ∧ H' = H) := by
  refine fn_intro Tryd.func20 rfl rfl rfl ?_
  refine w_seq ?_
  refine w_region rfl ?_
  refine l_eff (e_box (l := flat ks) rfl rfl) rfl ?_
  rintro _ _ ⟨b2, rfl, rfl⟩
  refine l_val (v_assign (v := .int .u64 (0 : Nat)) rfl) rfl ?_
  refine l_nil ?_
  refine a_normal ?_
  refine w_seq ?_
  have hs8 : Sl (sp (some ⟨b2, 0, none⟩) 16 8 1) b2 (0 + 8 * 1) (ks.drop 8).length (16 - 8) := by
    rw [show (ks.drop 8).length = 16 - 8 by simp; omega]; exact sp_sl (k := 16) ⟨.inr rfl, by omega⟩ (by omega) (by omega)
  refine w_anyH 3 6 mixed rfl (by kernel_rfl) ?_
  refine s_take 0 rfl (by kernel_rfl) rfl (v_sliceAk (k := ks.length) rfl hk) ?_
  refine s_take 2 rfl (by kernel_rfl) rfl (v_sliceAlk (l := 8) (k := (ks.drop 8).length) rfl rfl (by omega) (by simp; omega)) ?_
  refine s_eff 1 (by kernel_rfl) rfl rfl (e_call rfl (little_spec _ b2 0 16 ks _ ⟨.inr rfl, by omega⟩ inferInstance (by omega))) ?_
  rintro _ _ ⟨rfl, rfl⟩
  refine ⟨.inr inferInstance, ?_⟩
  refine s_eff 3 (by kernel_rfl) rfl rfl (e_call rfl (little_spec _ b2 (0 + 8 * 1) (16 - 8) (ks.drop 8) _ hs8 inferInstance (by simp; omega))) ?_
  rintro _ _ ⟨rfl, rfl⟩
  refine ⟨.inl (by decide), ?_⟩
  refine s_val 4 (by kernel_rfl) rfl rfl (v_assign rfl) (.inl (by decide)) ?_
  refine s_val 5 (by kernel_rfl) rfl rfl (v_assign rfl) (.inl (by decide)) ?_
  refine s_done (by kernel_rfl) ?_
  refine a_normal ?_
  refine w_seq ?_
  refine w_region rfl ?_
  refine l_val (v_move rfl) rfl ?_
  refine l_val (v_xor64 (b := 8317987319222330741) rfl rfl) rfl ?_
  refine l_val (v_move rfl) rfl ?_
  refine l_val (v_xor64 (b := 7237128888997146477) rfl rfl) rfl ?_
  refine l_val (v_move rfl) rfl ?_
  refine l_val (v_xor64 (b := 7816392313619706465) rfl rfl) rfl ?_
  refine l_val (v_move rfl) rfl ?_
  refine l_val (v_xor64 (b := 8387220255154660723) rfl rfl) rfl ?_
  refine l_val (v_mkA rfl rfl (by simp [Value.oneCell'])) rfl ?_
  refine l_eff (e_alloc (l := [_, _, _, _]) rfl) rfl ?_
  rintro _ _ ⟨b7, rfl, rfl⟩
  refine l_eff0 (e_storeA rfl rfl (by constructor <;> rfl) (by simp [Value.oneCell'])) ?_
  rintro _ _ ⟨rfl, rfl⟩
  refine l_nil ?_
  refine a_normal ?_
  refine w_seq ?_
  refine w_region rfl ?_
  refine l_val (v_func rfl rfl) rfl ?_
  refine l_val (v_assign rfl) rfl ?_
  refine l_nil ?_
  refine a_normal ?_
  refine w_seq ?_
  refine w_region rfl ?_
  refine l_val (v_move rfl) rfl ?_
  refine l_val (v_lenS rfl) rfl ?_
  refine l_val (v_assign rfl) rfl ?_
  refine l_nil ?_
  refine a_normal ?_
  refine w_seq ?_
  refine w_block ?_
  refine w_loop (α := Nat × Option Addr × Nat) (fun z => [(1, .slice z.2.1 (xs.drop (8 * z.1)).length z.2.2), (7, ptr b7 0), (8, .func (.func 39) #[] #[ptr b7 0]), (9, iN xs.length)])
    (fun z => HP.pts b7 0 (s4 (eat xs z.1 (sinit ks))) * (HP.pts b2 0 (flat ks) * H)) (fun z => 8 * z.1 ≤ xs.length ∧ Sl z.2.1 b (o + 8 * z.1) (xs.drop (8 * z.1)).length z.2.2) (fun z => xs.length - 8 * z.1) (0, p, c) ⟨Nat.zero_le _, hs⟩
    (.cons rfl (.cons rfl (.cons rfl (.cons rfl .nil)))) rfl ?_
  rintro ⟨k, q, c'⟩ ⟨hk8, hz⟩
  dsimp only at hk8 hz ⊢
  have hrk := hr.drop1 (8 * k)
  have hlk : (xs.drop (8 * k)).length = xs.length - 8 * k := by simp
  refine w_seq ?_
  refine w_seq ?_
  refine w_region rfl ?_
  refine l_val (v_move rfl) rfl ?_
  refine l_val (v_lenS rfl) rfl ?_
  refine l_val (v_geq (j := 8) rfl rfl) rfl ?_
  refine l_nil ?_
  refine a_normal ?_
  refine w_condD rfl (fun hc => ?_) (fun hc => ?_)
  · skip
    refine w_skip ?_
    refine a_normal ?_
    refine w_seq ?_
    refine w_block ?_
    refine w_region rfl ?_
    refine l_val (v_move rfl) rfl ?_
    refine l_val (v_move rfl) rfl ?_
    refine l_eff (e_call rfl (little_spec _ b (o + 8 * k) c' (xs.drop (8 * k)) _ hz inferInstance (by omega))) rfl ?_
    rintro _ _ ⟨rfl, rfl⟩
    refine l_eff (e_callV rfl rfl (word_spec b7 _ _ _)) rfl ?_
    rintro _ _ ⟨rfl, rfl⟩
    refine l_nil ?_
    refine a_bnormal ?_
    refine a_normal ?_
    refine w_region rfl ?_
    refine l_val (v_move rfl) rfl ?_
    refine l_val (v_sliceSlk (l := 8) (k' := (xs.drop (8 * (k + 1))).length) rfl rfl (by omega) (by simp; omega)) rfl ?_
    refine l_val (v_assign rfl) rfl ?_
    refine l_nil ?_
    have h1 := sp_sl (sz := 1) (l := 8) (h := (xs.drop (8 * k)).length) hz (by omega) hz.2
    exact a_loop (k + 1, sp q c' 8 1, c' - 8) ⟨by omega, by
      rw [show o + 8 * (k + 1) = o + 8 * k + 8 * 1 by omega, show (xs.drop (8 * (k + 1))).length = (xs.drop (8 * k)).length - 8 by simp; omega]; exact h1⟩ (by show xs.length - 8 * (k + 1) < xs.length - 8 * k; omega) (.cons rfl (.cons rfl (.cons rfl (.cons rfl .nil)))) rfl
  · skip
    obtain rfl : k = xs.length / 8 := by omega
    have hlt : (xs.drop (8 * (xs.length / 8))).length < 8 := by omega
    refine w_exit ?_
    refine a_texit ?_
    refine a_texit ?_
    refine a_bexit ?_
    refine a_normal ?_
    refine w_seq ?_
    refine w_region rfl ?_
    refine l_eff (e_alloc (l := [_, _, _, _, _, _, _, _]) rfl) rfl ?_
    rintro _ _ ⟨b10, rfl, rfl⟩
    refine l_nil ?_
    refine a_normal ?_
    refine w_seq ?_
    refine w_region rfl ?_
    refine l_val (v_sliceAh (h := 7) rfl rfl (by omega)) rfl ?_
    refine l_val (v_move rfl) rfl ?_
    refine l_eff (e_copy (b := b10) (o := 0) (bb := b) (oo := o + 8 * (xs.length / 8)) (ys := xs.drop (8 * (xs.length / 8))) rfl ⟨.inr rfl, by omega⟩ rfl hz inferInstance (by decide)) rfl ?_
    rintro _ _ ⟨rfl, rfl⟩
    refine l_heap (H' := arr b10 0 (pad8 (xs.drop (8 * (xs.length / 8)))) [] * (HP.pts b7 0 (s4 (eat xs (xs.length / 8) (sinit ks))) * (HP.pts b2 0 (flat ks) * H))) (by unfold arr; rw [List.append_nil, ← pad_copy _ hlt]; rfl) ?_
    have hp8 : (pad8 (xs.drop (8 * (xs.length / 8)))).length = 8 := by simp only [pad8, List.length_append, List.length_replicate]; omega
    refine l_nil ?_
    refine a_normal ?_
    refine w_seq ?_
    refine w_region rfl ?_
    refine l_val (v_move rfl) rfl ?_
    refine l_val (v_ito8 rfl) rfl ?_
    refine l_val (v_indexAddrA (i := 7) rfl rfl (by omega)) rfl ?_
    refine l_eff0 (e_store rfl rfl rfl (by omega)) ?_
    rintro _ _ ⟨rfl, rfl⟩
    refine l_nil ?_
    refine a_normal ?_
    refine w_seq ?_
    refine w_region rfl ?_
    refine l_val (v_move rfl) rfl ?_
    refine l_val (v_sliceAk (k := (lastW xs).length) rfl (by simp only [lastW, List.length_set]; omega)) rfl ?_
    refine l_eff (e_call rfl (little_spec _ b10 0 8 (lastW xs) _ ⟨.inr rfl, by simp only [lastW, List.length_set]; omega⟩ (inferInstance : RdA B (arr b10 0 (lastW xs) [] * _) b10 0 (lastW xs)) (by simp only [lastW, List.length_set]; omega))) rfl ?_
    rintro _ _ ⟨rfl, rfl⟩
    refine l_heap (HP.left_comm _ _ _) ?_
    refine l_eff (e_callV rfl rfl (word_spec b7 _ _ _)) rfl ?_
    rintro _ _ ⟨rfl, rfl⟩
    refine l_nil ?_
    refine a_normal ?_
    refine w_seq ?_
    refine w_region rfl ?_
    refine l_val (v_indexAddrAK (i := 2) (q := 2) rfl rfl (by omega) rfl) rfl ?_
    refine l_val (v_load rfl (by first | trivial | omega)) rfl ?_
    refine l_val (v_xor64 (b := 255) rfl rfl) rfl ?_
    refine l_val (v_indexAddrAK (i := 2) (q := 2) rfl rfl (by omega) rfl) rfl ?_
    refine l_eff0 (e_store rfl rfl rfl (by first | trivial | omega)) ?_
    rintro _ _ ⟨rfl, rfl⟩
    refine l_nil ?_
    refine a_normal ?_
    refine w_seq ?_
    refine w_region rfl ?_
    refine l_eff (e_call rfl (mix_spec b7 4 (by decide) { sword (le (lastW xs) 8) (eat xs (xs.length / 8) (sinit ks)) with c := (sword (le (lastW xs) 8) (eat xs (xs.length / 8) (sinit ks))).c ^^^ 255 } _)) rfl ?_
    rintro _ _ ⟨rfl, rfl⟩
    refine l_nil ?_
    refine a_normal ?_
    refine w_seq ?_
    refine w_region rfl ?_
    refine l_val (v_indexAddrAK (i := 0) (q := 0) rfl rfl (by omega) rfl) rfl ?_
    refine l_val (v_load rfl (by first | trivial | omega)) rfl ?_
    refine l_val (v_indexAddrAK (i := 1) (q := 1) rfl rfl (by omega) rfl) rfl ?_
    refine l_val (v_load rfl (by first | trivial | omega)) rfl ?_
    refine l_val (v_xor64 rfl rfl) rfl ?_
    refine l_val (v_indexAddrAK (i := 2) (q := 2) rfl rfl (by omega) rfl) rfl ?_
    refine l_val (v_load rfl (by first | trivial | omega)) rfl ?_
    refine l_val (v_xor64 rfl rfl) rfl ?_
    refine l_val (v_indexAddrAK (i := 3) (q := 3) rfl rfl (by omega) rfl) rfl ?_
    refine l_val (v_load rfl (by first | trivial | omega)) rfl ?_
    refine l_val (v_xor64 rfl rfl) rfl ?_
    refine l_val (v_assign rfl) rfl ?_
    refine l_nil ?_
    refine a_normal ?_
    refine w_ret ?_
    exact a_retD (ts := [4]) H rfl rfl ⟨rfl, rfl⟩
end Go.Proofs.YtgfdlpcdjklcoaaDoor
