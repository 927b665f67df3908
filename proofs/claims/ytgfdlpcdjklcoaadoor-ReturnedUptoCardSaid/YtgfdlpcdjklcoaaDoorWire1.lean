/- Contracts of package wire: numbers and frames written; no condition. -/
import Derived.Test.YtgfdlpcdjklcoaaDoorWireB
namespace Go.Proofs.YtgfdlpcdjklcoaaDoor
open Go Go.RowKit
set_option linter.unusedVariables false
set_option maxRecDepth 20000
variable {B : World}

theorem RdA.flatR {b o : Nat} {xs : List UInt8} {A C : HP} (l : List UInt8) : RdA B (A * (HP.pts b o (flat xs) * C)) b o xs := inferInstance

theorem varint_spec (n : Nat) (hn : n ≤ 4611686018427387903) (p : Option Addr) (b o c : Nat) (xs : List UInt8) (s : List Value) (R : HP) (hs : Sl p b o xs.length c) (hc : xs.length * 1 + s.length = c * 1) (hx : xs.length < 1000000000000) :
    Fn Tryd.prog B 77 [.slice p xs.length c, uN n] (arr b o xs s * R) (fun v H' => IsSl R (xs ++ vint n) v H') := by
  refine fn_intro Tryd.func77 rfl rfl rfl ?_
  refine w_seq ?_
  refine w_region rfl ?_
  refine l_val (v_assign rfl) rfl ?_
  refine l_nil ?_
  refine a_normal ?_
  refine w_seq ?_
  refine w_block ?_
  refine w_seq ?_
  refine w_region rfl ?_
  refine l_val (v_move rfl) rfl ?_
  refine l_val (v_lss (j := 64) rfl rfl) rfl ?_
  refine l_val (v_assign rfl) rfl ?_
  refine l_nil ?_
  refine a_normal ?_
  refine w_condD rfl (fun hc0 => ?_) (fun hc0 => ?_)
  · skip
    refine w_seq ?_
    refine w_region rfl ?_
    refine l_val (v_move rfl) rfl ?_
    refine l_val (v_move rfl) rfl ?_
    refine l_val (v_conv8 rfl) rfl ?_
    refine l_eff (e_mk1 rfl rfl (by simp [Value.oneCell']) rfl rfl rfl) rfl ?_
    rintro _ _ ⟨b11, rfl, rfl⟩
    refine l_heap (H' := arr b o xs s * (HP.pts b11 0 (flat (vint n)) * R)) (by rw [← vint1 hc0, HP.left_comm]) ?_
    have hl : (vint n).length = 1 := by simp [vint, *]
    refine l_eff (e_append (ys := vint n) (bb := b11) (oo := 0) (cc := 1) rfl hs hc (by rw [hl]; rfl) (by rw [hl]; exact ⟨.inr rfl, Nat.le_refl _⟩) inferInstance rfl (by rw [hl]; omega) (by omega)) rfl ?_
    rintro _ _ ⟨q, b', o', c', s', rfl, h1, h2, rfl⟩
    refine l_val (v_assign rfl) rfl ?_
    refine l_nil ?_
    refine a_normal ?_
    refine w_ret ?_
    refine a_bret ?_
    refine a_tret ?_
    exact a_retD (ts := [4]) (arr b' o' (xs ++ vint n) s' * R) rfl rfl ⟨q, b', o', c', s', rfl, h1, h2, rfl⟩
  · skip
    refine w_seq ?_
    refine w_region rfl ?_
    refine l_val (v_move rfl) rfl ?_
    refine l_val (v_lss (j := 16384) rfl rfl) rfl ?_
    refine l_val (v_assign rfl) rfl ?_
    refine l_nil ?_
    refine a_normal ?_
    refine w_condD rfl (fun hc1 => ?_) (fun hc1 => ?_)
    · skip
      refine w_seq ?_
      refine w_region rfl ?_
      refine l_val (v_move rfl) rfl ?_
      refine l_val (v_move rfl) rfl ?_
      refine l_val (v_shrU (j := 8) rfl rfl (by omega)) rfl ?_
      refine l_val (v_conv8 rfl) rfl ?_
      refine l_val (v_or8 (j := 64) rfl rfl ⟨by omega, by omega⟩) rfl ?_
      refine l_val (v_move rfl) rfl ?_
      refine l_val (v_conv8 rfl) rfl ?_
      refine l_eff (e_mk1 rfl rfl (by simp [Value.oneCell']) rfl rfl rfl) rfl ?_
      rintro _ _ ⟨b23, rfl, rfl⟩
      refine l_heap (H' := arr b o xs s * (HP.pts b23 0 (flat (vint n)) * R)) (by rw [← vint2 hc0 hc1, HP.left_comm]) ?_
      have hl : (vint n).length = 2 := by simp [vint, *]
      refine l_eff (e_append (ys := vint n) (bb := b23) (oo := 0) (cc := 2) rfl hs hc (by rw [hl]; rfl) (by rw [hl]; exact ⟨.inr rfl, Nat.le_refl _⟩) inferInstance rfl (by rw [hl]; omega) (by omega)) rfl ?_
      rintro _ _ ⟨q, b', o', c', s', rfl, h1, h2, rfl⟩
      refine l_val (v_assign rfl) rfl ?_
      refine l_nil ?_
      refine a_normal ?_
      refine w_ret ?_
      refine a_bret ?_
      refine a_tret ?_
      exact a_retD (ts := [4]) (arr b' o' (xs ++ vint n) s' * R) rfl rfl ⟨q, b', o', c', s', rfl, h1, h2, rfl⟩
    · skip
      refine w_seq ?_
      refine w_region rfl ?_
      refine l_val (v_move rfl) rfl ?_
      refine l_val (v_lss (j := 1073741824) rfl rfl) rfl ?_
      refine l_val (v_assign rfl) rfl ?_
      refine l_nil ?_
      refine a_normal ?_
      refine w_condD rfl (fun hc2 => ?_) (fun hc2 => ?_)
      · skip
        refine w_seq ?_
        refine w_region rfl ?_
        refine l_val (v_move rfl) rfl ?_
        refine l_val (v_move rfl) rfl ?_
        refine l_val (v_shrU (j := 24) rfl rfl (by omega)) rfl ?_
        refine l_val (v_conv8 rfl) rfl ?_
        refine l_val (v_or8 (j := 128) rfl rfl ⟨by omega, by omega⟩) rfl ?_
        refine l_val (v_move rfl) rfl ?_
        refine l_val (v_shrU (j := 16) rfl rfl (by omega)) rfl ?_
        refine l_val (v_conv8 rfl) rfl ?_
        refine l_val (v_move rfl) rfl ?_
        refine l_val (v_shrU (j := 8) rfl rfl (by omega)) rfl ?_
        refine l_val (v_conv8 rfl) rfl ?_
        refine l_val (v_move rfl) rfl ?_
        refine l_val (v_conv8 rfl) rfl ?_
        refine l_eff (e_mk1 rfl rfl (by simp [Value.oneCell']) rfl rfl rfl) rfl ?_
        rintro _ _ ⟨b41, rfl, rfl⟩
        refine l_heap (H' := arr b o xs s * (HP.pts b41 0 (flat (vint n)) * R)) (by rw [← vint4 hc0 hc1 hc2, HP.left_comm]) ?_
        have hl : (vint n).length = 4 := by simp [vint, *]
        refine l_eff (e_append (ys := vint n) (bb := b41) (oo := 0) (cc := 4) rfl hs hc (by rw [hl]; rfl) (by rw [hl]; exact ⟨.inr rfl, Nat.le_refl _⟩) inferInstance rfl (by rw [hl]; omega) (by omega)) rfl ?_
        rintro _ _ ⟨q, b', o', c', s', rfl, h1, h2, rfl⟩
        refine l_val (v_assign rfl) rfl ?_
        refine l_nil ?_
        refine a_normal ?_
        refine w_ret ?_
        refine a_bret ?_
        refine a_tret ?_
        exact a_retD (ts := [4]) (arr b' o' (xs ++ vint n) s' * R) rfl rfl ⟨q, b', o', c', s', rfl, h1, h2, rfl⟩
      · skip
        refine w_skip ?_
        refine a_bnormal ?_
        refine a_normal ?_
        refine w_seq ?_
        refine w_region rfl ?_
        refine l_val (v_move rfl) rfl ?_
        refine l_val (v_move rfl) rfl ?_
        refine l_val (v_shrU (j := 56) rfl rfl (by omega)) rfl ?_
        refine l_val (v_conv8 rfl) rfl ?_
        refine l_val (v_or8 (j := 192) rfl rfl ⟨by omega, by omega⟩) rfl ?_
        refine l_val (v_move rfl) rfl ?_
        refine l_val (v_shrU (j := 48) rfl rfl (by omega)) rfl ?_
        refine l_val (v_conv8 rfl) rfl ?_
        refine l_val (v_move rfl) rfl ?_
        refine l_val (v_shrU (j := 40) rfl rfl (by omega)) rfl ?_
        refine l_val (v_conv8 rfl) rfl ?_
        refine l_val (v_move rfl) rfl ?_
        refine l_val (v_shrU (j := 32) rfl rfl (by omega)) rfl ?_
        refine l_val (v_conv8 rfl) rfl ?_
        refine l_val (v_move rfl) rfl ?_
        refine l_val (v_shrU (j := 24) rfl rfl (by omega)) rfl ?_
        refine l_val (v_conv8 rfl) rfl ?_
        refine l_val (v_move rfl) rfl ?_
        refine l_val (v_shrU (j := 16) rfl rfl (by omega)) rfl ?_
        refine l_val (v_conv8 rfl) rfl ?_
        refine l_val (v_move rfl) rfl ?_
        refine l_val (v_shrU (j := 8) rfl rfl (by omega)) rfl ?_
        refine l_val (v_conv8 rfl) rfl ?_
        refine l_val (v_move rfl) rfl ?_
        refine l_val (v_conv8 rfl) rfl ?_
        refine l_eff (e_mk1 rfl rfl (by simp [Value.oneCell']) rfl rfl rfl) rfl ?_
        rintro _ _ ⟨b68, rfl, rfl⟩
        refine l_heap (H' := arr b o xs s * (HP.pts b68 0 (flat (vint n)) * R)) (by rw [← vint8 hc0 hc1 hc2 hn, HP.left_comm]) ?_
        have hl : (vint n).length = 8 := by simp [vint, *]
        refine l_eff (e_append (ys := vint n) (bb := b68) (oo := 0) (cc := 8) rfl hs hc (by rw [hl]; rfl) (by rw [hl]; exact ⟨.inr rfl, Nat.le_refl _⟩) inferInstance rfl (by rw [hl]; omega) (by omega)) rfl ?_
        rintro _ _ ⟨q, b', o', c', s', rfl, h1, h2, rfl⟩
        refine l_val (v_assign rfl) rfl ?_
        refine l_nil ?_
        refine a_normal ?_
        refine w_ret ?_
        exact a_retD (ts := [4]) (arr b' o' (xs ++ vint n) s' * R) rfl rfl ⟨q, b', o', c', s', rfl, h1, h2, rfl⟩

theorem text_spec (d : ByteArray) (hd : d.size < 1000000000000) (p : Option Addr) (b o c : Nat) (xs : List UInt8) (s : List Value) (R : HP) (hs : Sl p b o xs.length c) (hc : xs.length * 1 + s.length = c * 1) (hx : xs.length < 1000000000000) :
    Fn Tryd.prog B 83 [.slice p xs.length c, .string d] (arr b o xs s * R) (fun v H' => IsSl R (xs ++ vint d.size ++ d.data.toList) v H') := by
  refine fn_intro Tryd.func83 rfl rfl rfl ?_
  refine w_seq ?_
  refine w_region rfl ?_
  refine l_val (v_assign rfl) rfl ?_
  refine l_nil ?_
  refine a_normal ?_
  refine w_seq ?_
  refine w_region rfl ?_
  refine l_val (v_move rfl) rfl ?_
  refine l_val (v_move rfl) rfl ?_
  refine l_val (v_lenStr rfl) rfl ?_
  refine l_val (v_conv rfl (fit_u64 (by omega))) rfl ?_
  refine l_eff (e_call rfl (varint_spec d.size (by omega) p b o c xs s R hs hc (by omega))) rfl ?_
  rintro _ _ ⟨p9, b9, o9, c9, s9, rfl, hs9, hc9, rfl⟩
  refine l_val (v_move rfl) rfl ?_
  refine l_eff (e_appendStr (str := d) rfl hs9 hc9 rfl rfl (by have := vint_length d.size; simp; omega) (by omega)) rfl ?_
  rintro _ _ ⟨q, b', o', c', s', rfl, h1, h2, rfl⟩
  refine l_val (v_assign rfl) rfl ?_
  refine l_nil ?_
  refine a_normal ?_
  refine w_ret ?_
  exact a_retD (ts := [4]) (arr b' o' (xs ++ vint d.size ++ d.data.toList) s' * R) rfl rfl ⟨q, b', o', c', s', rfl, h1, h2, rfl⟩

theorem bare1_spec (t : UInt8) (bt : Nat) (r : RF) (fb : Nat) (p : Option Addr) (b o c : Nat) (xs : List UInt8) (s : List Value) (R : HP) (hs : Sl p b o xs.length c) (hc : xs.length * 1 + s.length = c * 1) (hx : xs.length < 100000000000) :
    Fn Tryd.prog B 92 [.slice p xs.length c, ptr fb 0, ptr bt 0] (arr b o xs s * (HP.pts fb 0 (encRF r) * (HP.pts bt 0 [u8 t] * R))) (fun v H' => IsSl (HP.pts fb 0 (encRF r) * (HP.pts bt 0 [u8 t] * R)) (xs ++ [t]) v H') := by
  refine fn_intro Tryd.func92 rfl rfl rfl ?_
  refine w_seq ?_
  refine w_region rfl ?_
  refine l_val (v_assign rfl) rfl ?_
  refine l_nil ?_
  refine a_normal ?_
  refine w_seq ?_
  refine w_region rfl ?_
  refine l_val (v_move rfl) rfl ?_
  refine l_val (v_load rfl trivial) rfl ?_
  refine l_eff (e_mk1 rfl rfl (by simp [Value.oneCell']) rfl rfl rfl) rfl ?_
  rintro _ _ ⟨b8, rfl, rfl⟩
  refine l_heap (H' := arr b o xs s * (HP.pts b8 0 (flat [t]) * (HP.pts fb 0 (encRF r) * (HP.pts bt 0 [u8 t] * R)))) (by rw [HP.left_comm]; rfl) ?_
  refine l_eff (e_append (ys := [t]) (bb := b8) (oo := 0) (cc := 1) rfl hs hc rfl ⟨.inr rfl, Nat.le_refl _⟩ inferInstance rfl (by simp; omega) (by omega)) rfl ?_
  rintro _ _ ⟨p9, b9, o9, c9, s9, rfl, hs9, hc9, rfl⟩
  refine l_val (v_assign rfl) rfl ?_
  refine l_nil ?_
  refine a_normal ?_
  refine w_ret ?_
  exact a_retD (ts := [5]) (arr b9 o9 (xs ++ [t]) s9 * (HP.pts fb 0 (encRF r) * (HP.pts bt 0 [u8 t] * R))) rfl rfl ⟨p9, b9, o9, c9, s9, rfl, hs9, hc9, rfl⟩

theorem code_spec (fb : Nat) (H : HP) : Fn Tryd.prog B 88 [ptr fb 0] H (fun v H' => v = ptr fb (0 + 3) ∧ H' = H) := by
  refine fn_intro Tryd.func88 rfl rfl rfl ?_
  refine w_seq ?_
  refine w_region rfl ?_
  refine l_val (v_assign rfl) rfl ?_
  refine l_nil ?_
  refine a_normal ?_
  refine w_seq ?_
  refine w_region rfl ?_
  refine l_val (v_move rfl) rfl ?_
  refine l_val (v_nilCheck rfl) rfl ?_
  refine l_val (v_fieldAddr rfl) rfl ?_
  refine l_val (v_assign rfl) rfl ?_
  refine l_nil ?_
  refine a_normal ?_
  refine w_ret ?_
  exact a_ret (ts := [2]) rfl rfl ⟨rfl, rfl⟩

theorem number1_spec (bt bq : Nat) (r : RF) (fb : Nat) (p : Option Addr) (b o c : Nat) (xs : List UInt8) (s : List Value) (R : HP) (hs : Sl p b o xs.length c) (hc : xs.length * 1 + s.length = c * 1) (hx : xs.length < 100000000000) (hcd : r.f.code ≤ 4611686018427387903) :
    Fn Tryd.prog B 94 [.slice p xs.length c, ptr fb 0, ptr bt 0, ptr bq 0] (arr b o xs s * (HP.pts fb 0 (encRF r) * (HP.pts bt 0 [u8 28] * (HP.pts bq 0 [.func (.func 88) #[] #[]] * R)))) (fun v H' => IsSl (HP.pts fb 0 (encRF r) * (HP.pts bt 0 [u8 28] * (HP.pts bq 0 [.func (.func 88) #[] #[]] * R))) (xs ++ [28] ++ vint r.f.code) v H') := by
  refine fn_intro Tryd.func94 rfl rfl rfl ?_
  refine w_seq ?_
  refine w_region rfl ?_
  refine l_val (v_assign rfl) rfl ?_
  refine l_nil ?_
  refine a_normal ?_
  refine w_seq ?_
  refine w_any (HP.pts fb 0 (encRF r) * (HP.pts bt 0 [u8 28] * (HP.pts bq 0 [.func (.func 88) #[] #[]] * R))) 6 11 mixed rfl (by kernel_rfl) ?_
  refine s_take 0 rfl (by kernel_rfl) rfl (v_move rfl) ?_
  refine s_take 1 rfl (by kernel_rfl) rfl (v_load rfl trivial) ?_
  refine s_take 4 rfl (by kernel_rfl) rfl (v_load rfl trivial) ?_
  refine s_take 5 rfl (by kernel_rfl) rfl (v_move rfl) ?_
  refine s_eff 2 (by kernel_rfl) rfl rfl (e_mk1 rfl rfl (by simp [Value.oneCell']) rfl rfl rfl) ?_
  rintro _ _ ⟨b9, rfl, rfl⟩
  refine ⟨.inr inferInstance, ?_⟩
  refine s_heap (H' := arr b o xs s * (HP.pts b9 0 (flat [(28 : UInt8)]) * (HP.pts fb 0 (encRF r) * (HP.pts bt 0 [u8 28] * (HP.pts bq 0 [.func (.func 88) #[] #[]] * R))))) (by rw [HP.left_comm]; rfl) ?_
  refine s_eff 3 (by kernel_rfl) rfl rfl (e_append (ys := [28]) (bb := b9) (oo := 0) (cc := 1) rfl hs hc rfl ⟨.inr rfl, Nat.le_refl _⟩ inferInstance rfl (by simp; omega) (by omega)) ?_
  rintro _ _ ⟨p10, b10, o10, c10, s10, rfl, hs10, hc10, rfl⟩
  refine ⟨.inr inferInstance, ?_⟩
  refine s_eff 6 (by kernel_rfl) rfl rfl (e_callV rfl rfl (code_spec fb _)) ?_
  rintro _ _ ⟨rfl, rfl⟩
  refine ⟨.inl (by decide), ?_⟩
  refine s_val 7 (by kernel_rfl) rfl rfl (v_nilCheck rfl) (.inl (by decide)) ?_
  refine s_val 8 (by kernel_rfl) rfl rfl (v_load rfl trivial) (.inl (by decide)) ?_
  refine s_eff 9 (by kernel_rfl) rfl rfl (e_call rfl (varint_spec r.f.code hcd p10 b10 o10 c10 (xs ++ [28]) s10 _ hs10 hc10 (by simp; omega))) ?_
  rintro _ _ ⟨p16, b16, o16, c16, s16, rfl, hs16, hc16, rfl⟩
  refine ⟨.inl (by decide), ?_⟩
  refine s_val 10 (by kernel_rfl) rfl rfl (v_assign rfl) (.inl (by decide)) ?_
  refine s_done (by kernel_rfl) ?_
  refine a_normal ?_
  refine w_ret ?_
  exact a_retD (ts := [6]) (arr b16 o16 (xs ++ [28] ++ vint r.f.code) s16 * (HP.pts fb 0 (encRF r) * (HP.pts bt 0 [u8 28] * (HP.pts bq 0 [.func (.func 88) #[] #[]] * R)))) rfl rfl ⟨p16, b16, o16, c16, s16, rfl, hs16, hc16, rfl⟩

theorem of1_spec (r : RF) (fb : Nat) (p : Option Addr) (b o c : Nat) (xs : List UInt8) (s : List Value) (R : HP) (hs : Sl p b o xs.length c) (hc : xs.length * 1 + s.length = c * 1) (hx : xs.length < 100000000000) (st : Nat) (hst : r.f.stream = (st : Nat)) (hst4 : st < 4) (hcd : r.f.code ≤ 4611686018427387903) (hof : r.f.offset ≤ 4611686018427387903) :
    Fn Tryd.prog B 76 [.slice p xs.length c, ptr fb 0] (arr b o xs s * (HP.pts fb 0 (encRF r) * R)) (fun v H' => IsSl (HP.pts fb 0 (encRF r) * R) (xs ++ [4] ++ vint st ++ vint r.f.code ++ vint r.f.offset) v H') := by
  refine fn_intro Tryd.func76 rfl rfl rfl ?_
  have q1 := vint_length st
  have q2 := vint_length r.f.code
  have q3 := vint_length r.f.offset
  refine w_seq ?_
  refine w_region rfl ?_
  refine l_val (v_assign rfl) rfl ?_
  refine l_nil ?_
  refine a_normal ?_
  refine w_seq ?_
  refine w_any (HP.pts fb 0 (encRF r) * R) 18 20 mixed rfl (by kernel_rfl) ?_
  refine s_take 0 rfl (by kernel_rfl) rfl (v_move rfl) ?_
  refine s_take 3 rfl (by kernel_rfl) rfl (v_move rfl) ?_
  refine s_take 4 rfl (by kernel_rfl) rfl (v_nilCheck rfl) ?_
  refine s_take 5 rfl (by kernel_rfl) rfl (v_fieldAddr rfl) ?_
  refine s_take 6 rfl (by kernel_rfl) rfl (v_load rfl trivial) ?_
  refine s_take 7 rfl (by kernel_rfl) rfl (v_conv (i := st) (congrArg (fun z => some (Value.int .i64 z)) hst) (fit_u64 (by omega))) ?_
  refine s_take 9 rfl (by kernel_rfl) rfl (v_move rfl) ?_
  refine s_take 10 rfl (by kernel_rfl) rfl (v_nilCheck rfl) ?_
  refine s_take 11 rfl (by kernel_rfl) rfl (v_fieldAddr rfl) ?_
  refine s_take 12 rfl (by kernel_rfl) rfl (v_load rfl trivial) ?_
  refine s_take 14 rfl (by kernel_rfl) rfl (v_move rfl) ?_
  refine s_take 15 rfl (by kernel_rfl) rfl (v_nilCheck rfl) ?_
  refine s_take 16 rfl (by kernel_rfl) rfl (v_fieldAddr rfl) ?_
  refine s_take 17 rfl (by kernel_rfl) rfl (v_load rfl trivial) ?_
  refine s_eff 1 (by kernel_rfl) rfl rfl (e_mk1 rfl rfl (by simp [Value.oneCell']) rfl rfl rfl) ?_
  rintro _ _ ⟨b6, rfl, rfl⟩
  refine ⟨.inr inferInstance, ?_⟩
  refine s_heap (H' := arr b o xs s * (HP.pts b6 0 (flat [(4 : UInt8)]) * (HP.pts fb 0 (encRF r) * R))) (by rw [HP.left_comm]; rfl) ?_
  refine s_eff 2 (by kernel_rfl) rfl rfl (e_append (ys := [4]) (bb := b6) (oo := 0) (cc := 1) rfl hs hc rfl ⟨.inr rfl, Nat.le_refl _⟩ inferInstance rfl (by simp; omega) (by omega)) ?_
  rintro _ _ ⟨p7, b7, o7, c7, s7, rfl, hs7, hc7, rfl⟩
  refine ⟨.inr inferInstance, ?_⟩
  refine s_eff 8 (by kernel_rfl) rfl rfl (e_call rfl (varint_spec (st) (by omega) p7 b7 o7 c7 (xs ++ [4]) s7 _ hs7 hc7 (by first | omega | (simp; omega)))) ?_
  rintro _ _ ⟨p13, b13, o13, c13, s13, rfl, hs13, hc13, rfl⟩
  refine ⟨.inr inferInstance, ?_⟩
  refine s_eff 13 (by kernel_rfl) rfl rfl (e_call rfl (varint_spec (r.f.code) hcd p13 b13 o13 c13 (xs ++ [4] ++ vint st) s13 _ hs13 hc13 (by first | omega | (simp; omega)))) ?_
  rintro _ _ ⟨p18, b18, o18, c18, s18, rfl, hs18, hc18, rfl⟩
  refine ⟨.inr inferInstance, ?_⟩
  refine s_eff 18 (by kernel_rfl) rfl rfl (e_call rfl (varint_spec (r.f.offset) hof p18 b18 o18 c18 (xs ++ [4] ++ vint st ++ vint r.f.code) s18 _ hs18 hc18 (by first | omega | (simp; omega)))) ?_
  rintro _ _ ⟨p23, b23, o23, c23, s23, rfl, hs23, hc23, rfl⟩
  refine ⟨.inl (by decide), ?_⟩
  refine s_val 19 (by kernel_rfl) rfl rfl (v_assign rfl) (.inl (by decide)) ?_
  refine s_done (by kernel_rfl) ?_
  refine a_normal ?_
  refine w_ret ?_
  exact a_retD (ts := [4]) (arr b23 o23 (xs ++ [4] ++ vint st ++ vint r.f.code ++ vint r.f.offset) s23 * (HP.pts fb 0 (encRF r) * R)) rfl rfl ⟨p23, b23, o23, c23, s23, rfl, hs23, hc23, rfl⟩

theorem of3_spec (r : RF) (fb : Nat) (p : Option Addr) (b o c : Nat) (xs : List UInt8) (s : List Value) (R : HP) (hs : Sl p b o xs.length c) (hc : xs.length * 1 + s.length = c * 1) (hx : xs.length < 100000000000) (st : Nat) (hst : r.f.stream = (st : Nat)) (hst4 : st < 4) (hof : r.f.offset ≤ 4611686018427387903) (hds : r.f.data.size < 1000000000000) :
    Fn Tryd.prog B 82 [.slice p xs.length c, ptr fb 0] (arr b o xs s * (HP.pts fb 0 (encRF r) * R)) (fun v H' => IsSl (HP.pts fb 0 (encRF r) * R) (xs ++ [bif r.f.fin then 9 else 8] ++ vint st ++ vint r.f.offset ++ vint r.f.data.size ++ r.f.data.data.toList) v H') := by
  refine fn_intro Tryd.func82 rfl rfl rfl ?_
  have q1 := vint_length st
  have q2 := vint_length r.f.code
  have q3 := vint_length r.f.offset
  refine w_seq ?_
  refine w_region rfl ?_
  refine l_val (v_assign rfl) rfl ?_
  refine l_nil ?_
  refine a_normal ?_
  refine w_seq ?_
  refine w_region rfl ?_
  refine l_val (v_assign (v := .int .u8 (8 : Nat)) rfl) rfl ?_
  refine l_nil ?_
  refine a_normal ?_
  refine w_seq ?_
  refine w_seq ?_
  refine w_region rfl ?_
  refine l_val (v_move rfl) rfl ?_
  refine l_val (v_nilCheck rfl) rfl ?_
  refine l_val (v_fieldAddr rfl) rfl ?_
  refine l_val (v_load rfl trivial) rfl ?_
  refine l_nil ?_
  refine a_normal ?_
  refine w_cut (α := Unit) (fun _ => [(0, .slice p xs.length c), (1, ptr fb 0), (5, u8 (bif r.f.fin then 9 else 8))]) (fun _ => arr b o xs s * (HP.pts fb 0 (encRF r) * R)) (fun _ => True) ?_ ?_
  · skip
    refine w_cond rfl (fun hc0 => ?_) (fun hc0 => ?_)
    · skip
      refine w_region rfl ?_
      refine l_val (v_assign (v := .int .u8 (9 : Nat)) rfl) rfl ?_
      refine l_nil ?_
      exact a_cut () trivial (by rw [hc0]; exact .cons rfl (.cons rfl (.cons rfl .nil))) rfl
    · skip
      refine w_skip ?_
      exact a_cut () trivial (by rw [hc0]; exact .cons rfl (.cons rfl (.cons rfl .nil))) rfl
  · rintro z hz
    refine a_normal ?_
    refine w_seq ?_
    refine w_any (HP.pts fb 0 (encRF r) * R) 19 21 mixed rfl (by kernel_rfl) ?_
    refine s_take 0 rfl (by kernel_rfl) rfl (v_move rfl) ?_
    refine s_take 1 rfl (by kernel_rfl) rfl (v_move rfl) ?_
    refine s_take 4 rfl (by kernel_rfl) rfl (v_move rfl) ?_
    refine s_take 5 rfl (by kernel_rfl) rfl (v_nilCheck rfl) ?_
    refine s_take 6 rfl (by kernel_rfl) rfl (v_fieldAddr rfl) ?_
    refine s_take 7 rfl (by kernel_rfl) rfl (v_load rfl trivial) ?_
    refine s_take 8 rfl (by kernel_rfl) rfl (v_conv (i := st) (congrArg (fun z => some (Value.int .i64 z)) hst) (fit_u64 (by omega))) ?_
    refine s_take 10 rfl (by kernel_rfl) rfl (v_move rfl) ?_
    refine s_take 11 rfl (by kernel_rfl) rfl (v_nilCheck rfl) ?_
    refine s_take 12 rfl (by kernel_rfl) rfl (v_fieldAddr rfl) ?_
    refine s_take 13 rfl (by kernel_rfl) rfl (v_load rfl trivial) ?_
    refine s_take 15 rfl (by kernel_rfl) rfl (v_move rfl) ?_
    refine s_take 16 rfl (by kernel_rfl) rfl (v_nilCheck rfl) ?_
    refine s_take 17 rfl (by kernel_rfl) rfl (v_fieldAddr rfl) ?_
    refine s_take 18 rfl (by kernel_rfl) rfl (v_load rfl trivial) ?_
    refine s_eff 2 (by kernel_rfl) rfl rfl (e_mk1 rfl rfl (by simp [Value.oneCell']) rfl rfl rfl) ?_
    rintro _ _ ⟨b12, rfl, rfl⟩
    refine ⟨.inr inferInstance, ?_⟩
    refine s_heap (H' := arr b o xs s * (HP.pts b12 0 (flat [(bif r.f.fin then (9 : UInt8) else 8)]) * (HP.pts fb 0 (encRF r) * R))) (by rw [HP.left_comm]; rfl) ?_
    refine s_eff 3 (by kernel_rfl) rfl rfl (e_append (ys := [(bif r.f.fin then (9 : UInt8) else 8)]) (bb := b12) (oo := 0) (cc := 1) rfl hs hc rfl ⟨.inr rfl, Nat.le_refl _⟩ inferInstance rfl (by simp; omega) (by omega)) ?_
    rintro _ _ ⟨p13, b13, o13, c13, s13, rfl, hs13, hc13, rfl⟩
    refine ⟨.inr inferInstance, ?_⟩
    refine s_eff 9 (by kernel_rfl) rfl rfl (e_call rfl (varint_spec (st) (by omega) p13 b13 o13 c13 (xs ++ [bif r.f.fin then 9 else 8]) s13 _ hs13 hc13 (by first | omega | (simp; omega)))) ?_
    rintro _ _ ⟨p19, b19, o19, c19, s19, rfl, hs19, hc19, rfl⟩
    refine ⟨.inr inferInstance, ?_⟩
    refine s_eff 14 (by kernel_rfl) rfl rfl (e_call rfl (varint_spec (r.f.offset) hof p19 b19 o19 c19 (xs ++ [bif r.f.fin then 9 else 8] ++ vint st) s19 _ hs19 hc19 (by first | omega | (simp; omega)))) ?_
    rintro _ _ ⟨p24, b24, o24, c24, s24, rfl, hs24, hc24, rfl⟩
    refine ⟨.inr inferInstance, ?_⟩
    refine s_eff 19 (by kernel_rfl) rfl rfl (e_call rfl (text_spec r.f.data hds p24 b24 o24 c24 (xs ++ [bif r.f.fin then 9 else 8] ++ vint st ++ vint r.f.offset) s24 _ hs24 hc24 (by simp; omega))) ?_
    rintro _ _ ⟨p29, b29, o29, c29, s29, rfl, hs29, hc29, rfl⟩
    refine ⟨.inl (by decide), ?_⟩
    refine s_val 20 (by kernel_rfl) rfl rfl (v_assign rfl) (.inl (by decide)) ?_
    refine s_done (by kernel_rfl) ?_
    refine a_normal ?_
    refine w_ret ?_
    exact a_retD (ts := [4]) (arr b29 o29 (xs ++ [bif r.f.fin then 9 else 8] ++ vint st ++ vint r.f.offset ++ vint r.f.data.size ++ r.f.data.data.toList) s29 * (HP.pts fb 0 (encRF r) * R)) rfl rfl ⟨p29, b29, o29, c29, s29, rfl, hs29, hc29, rfl⟩

theorem always_spec (fb : Nat) (H : HP) : Fn Tryd.prog B 81 [ptr fb 0] H (fun v H' => v = .bool true ∧ H' = H) := by
  refine fn_intro Tryd.func81 rfl rfl rfl ?_
  refine w_seq ?_
  refine w_region rfl ?_
  refine l_val (v_assign rfl) rfl ?_
  refine l_nil ?_
  refine a_normal ?_
  refine w_seq ?_
  refine w_region rfl ?_
  refine l_val (v_assign rfl) rfl ?_
  refine l_nil ?_
  refine a_normal ?_
  refine w_ret ?_
  exact a_ret (ts := [2]) rfl rfl ⟨rfl, rfl⟩

theorem of5_spec (r : RF) (fb : Nat) (R : HP) (hof : r.f.offset ≤ 4611686018427387903) (hds : r.f.data.size < 1000000000000) :
    Fn Tryd.prog B 86 [ptr fb 0] (HP.pts fb 0 (encRF r) * R) (fun v H' => v = .bool (decide (r.f.data.size + r.f.offset ≤ 4611686018427387903)) ∧ H' = HP.pts fb 0 (encRF r) * R) := by
  refine fn_intro Tryd.func86 rfl rfl rfl ?_
  refine w_seq ?_
  refine w_region rfl ?_
  refine l_val (v_assign rfl) rfl ?_
  refine l_nil ?_
  refine a_normal ?_
  refine w_seq ?_
  refine w_anyH 13 13 mixed rfl (by kernel_rfl) ?_
  refine s_take 0 rfl (by kernel_rfl) rfl (v_move rfl) ?_
  refine s_take 1 rfl (by kernel_rfl) rfl (v_nilCheck rfl) ?_
  refine s_take 2 rfl (by kernel_rfl) rfl (v_fieldAddr rfl) ?_
  refine s_take 3 rfl (by kernel_rfl) rfl (v_load rfl trivial) ?_
  refine s_take 4 rfl (by kernel_rfl) rfl (v_lenStr rfl) ?_
  refine s_take 5 rfl (by kernel_rfl) rfl (v_conv rfl (fit_u64 (by omega))) ?_
  refine s_take 6 rfl (by kernel_rfl) rfl (v_move rfl) ?_
  refine s_take 7 rfl (by kernel_rfl) rfl (v_nilCheck rfl) ?_
  refine s_take 8 rfl (by kernel_rfl) rfl (v_fieldAddr rfl) ?_
  refine s_take 9 rfl (by kernel_rfl) rfl (v_load rfl trivial) ?_
  refine s_take 10 rfl (by kernel_rfl) rfl (v_subU (i := 4611686018427387903) rfl rfl (by omega)) ?_
  refine s_take 11 rfl (by kernel_rfl) rfl (v_leq rfl rfl) ?_
  refine s_take 12 rfl (by kernel_rfl) rfl (v_assign rfl) ?_
  refine s_done (by kernel_rfl) ?_
  refine a_normal ?_
  refine w_ret ?_
  exact a_retD (ts := [2]) (HP.pts fb 0 (encRF r) * R) rfl rfl ⟨congrArg Value.bool (decide_eq_decide.2 (by omega)), rfl⟩

theorem writeAck_spec (r : RF) (fb : Nat) (p : Option Addr) (b o c : Nat) (xs : List UInt8) (s : List Value) (R : HP) (hs : Sl p b o xs.length c) (hc : xs.length * 1 + s.length = c * 1) (hx : xs.length < 100000000000) (hrok : r.ok) (hrd : RdA B R r.b r.o r.f.ranges) (hok : okRs r.f.ranges) (hrl : r.f.ranges.length < 10000000000) :
    Fn Tryd.prog B 73 [.slice p xs.length c, ptr fb 0] (arr b o xs s * (HP.pts fb 0 (encRF r) * R)) (fun v H' => IsSl (HP.pts fb 0 (encRF r) * R) (xs ++ [2] ++ vint (rg r.f.ranges 0).hi ++ vint (r.f.ranges.length - 1) ++ vint ((rg r.f.ranges 0).hi - (rg r.f.ranges 0).lo) ++ encRs r.f.ranges (r.f.ranges.length - 1)) v H') := by
  refine fn_intro Tryd.func73 rfl rfl rfl ?_
  have hne : 0 < r.f.ranges.length := List.length_pos_iff.2 hok.1
  have h0 := hok.2 0 hne
  unfold okR at h0
  have q1 := vint_length (rg r.f.ranges 0).hi
  have q2 := vint_length (r.f.ranges.length - 1)
  have q3 := vint_length ((rg r.f.ranges 0).hi - (rg r.f.ranges 0).lo)
  refine w_seq ?_
  refine w_region rfl ?_
  refine l_val (v_assign rfl) rfl ?_
  refine l_nil ?_
  refine a_normal ?_
  refine w_seq ?_
  refine w_region rfl ?_
  refine l_val (v_move rfl) rfl ?_
  refine l_val (v_nilCheck rfl) rfl ?_
  refine l_val (v_fieldAddr rfl) rfl ?_
  refine l_val (v_load rfl trivial) rfl ?_
  refine l_val (v_indexAddrR (i := 0) rfl rfl hrok hne) rfl ?_
  refine l_val (v_loadRg (i := 0) (xs := r.f.ranges) rfl inferInstance hne) rfl ?_
  refine l_eff (e_alloc (l := [_, _]) rfl) rfl ?_
  rintro _ _ ⟨b5, rfl, rfl⟩
  refine l_eff0 (e_storeA rfl rfl (by constructor <;> rfl) (by simp [Value.oneCell'])) ?_
  rintro _ _ ⟨rfl, rfl⟩
  refine l_nil ?_
  refine a_normal ?_
  refine w_seq ?_
  refine w_any (HP.pts b5 0 [uN (rg r.f.ranges 0).lo, uN (rg r.f.ranges 0).hi] * (HP.pts fb 0 (encRF r) * R)) 19 21 mixed rfl (by kernel_rfl) ?_
  refine s_take 0 rfl (by kernel_rfl) rfl (v_move rfl) ?_
  refine s_take 3 rfl (by kernel_rfl) rfl (v_fieldAddr rfl) ?_
  refine s_take 4 rfl (by kernel_rfl) rfl (v_load rfl trivial) ?_
  refine s_take 6 rfl (by kernel_rfl) rfl (v_move rfl) ?_
  refine s_take 7 rfl (by kernel_rfl) rfl (v_nilCheck rfl) ?_
  refine s_take 8 rfl (by kernel_rfl) rfl (v_fieldAddr rfl) ?_
  refine s_take 9 rfl (by kernel_rfl) rfl (v_load rfl trivial) ?_
  refine s_take 10 rfl (by kernel_rfl) rfl (v_lenS rfl) ?_
  refine s_take 11 rfl (by kernel_rfl) rfl (v_subI (j := 1) rfl rfl (by omega)) ?_
  refine s_take 12 rfl (by kernel_rfl) rfl (v_conv rfl (fit_u64 (by omega))) ?_
  refine s_take 14 rfl (by kernel_rfl) rfl (v_fieldAddr rfl) ?_
  refine s_take 15 rfl (by kernel_rfl) rfl (v_load rfl trivial) ?_
  refine s_take 16 rfl (by kernel_rfl) rfl (v_fieldAddr rfl) ?_
  refine s_take 17 rfl (by kernel_rfl) rfl (v_load rfl trivial) ?_
  refine s_take 18 rfl (by kernel_rfl) rfl (v_subU rfl rfl (by omega)) ?_
  refine s_eff 1 (by kernel_rfl) rfl rfl (e_mk1 rfl rfl (by simp [Value.oneCell']) rfl rfl rfl) ?_
  rintro _ _ ⟨b15, rfl, rfl⟩
  refine ⟨.inr inferInstance, ?_⟩
  refine s_heap (H' := arr b o xs s * (HP.pts b15 0 (flat [(2 : UInt8)]) * (HP.pts b5 0 [uN (rg r.f.ranges 0).lo, uN (rg r.f.ranges 0).hi] * (HP.pts fb 0 (encRF r) * R)))) (by show HP.pts b15 0 (flat [(2 : UInt8)]) * _ = _; ac_rfl) ?_
  refine s_eff 2 (by kernel_rfl) rfl rfl (e_append (ys := [2]) (bb := b15) (oo := 0) (cc := 1) rfl hs hc rfl ⟨.inr rfl, Nat.le_refl _⟩ inferInstance rfl (by simp; omega) (by omega)) ?_
  rintro _ _ ⟨p16, b16, o16, c16, s16, rfl, hs16, hc16, rfl⟩
  refine ⟨.inr inferInstance, ?_⟩
  refine s_eff 5 (by kernel_rfl) rfl rfl (e_call rfl (varint_spec ((rg r.f.ranges 0).hi) h0.2.1 p16 b16 o16 c16 (xs ++ [2]) s16 _ hs16 hc16 (by first | omega | (simp; omega)))) ?_
  rintro _ _ ⟨p19, b19, o19, c19, s19, rfl, hs19, hc19, rfl⟩
  refine ⟨.inr inferInstance, ?_⟩
  refine s_eff 13 (by kernel_rfl) rfl rfl (e_call rfl (varint_spec (r.f.ranges.length - 1) (by omega) p19 b19 o19 c19 (xs ++ [2] ++ vint (rg r.f.ranges 0).hi) s19 _ hs19 hc19 (by first | omega | (simp; omega)))) ?_
  rintro _ _ ⟨p27, b27, o27, c27, s27, rfl, hs27, hc27, rfl⟩
  refine ⟨.inr inferInstance, ?_⟩
  refine s_eff 19 (by kernel_rfl) rfl rfl (e_call rfl (varint_spec ((rg r.f.ranges 0).hi - (rg r.f.ranges 0).lo) (by omega) p27 b27 o27 c27 (xs ++ [2] ++ vint (rg r.f.ranges 0).hi ++ vint (r.f.ranges.length - 1)) s27 _ hs27 hc27 (by first | omega | (simp; omega)))) ?_
  rintro _ _ ⟨p33, b33, o33, c33, s33, rfl, hs33, hc33, rfl⟩
  refine ⟨.inl (by decide), ?_⟩
  refine s_val 20 (by kernel_rfl) rfl rfl (v_assign rfl) (.inl (by decide)) ?_
  refine s_done (by kernel_rfl) ?_
  refine a_normal ?_
  refine w_seq ?_
  refine w_seq ?_
  refine w_ent (arr b33 o33 (xs ++ [2] ++ vint (rg r.f.ranges 0).hi ++ vint (r.f.ranges.length - 1) ++ vint ((rg r.f.ranges 0).hi - (rg r.f.ranges 0).lo)) s33 * (HP.pts fb 0 (encRF r) * R)) ?_
  refine w_region rfl ?_
  refine l_val (v_move rfl) rfl ?_
  refine l_val (v_nilCheck rfl) rfl ?_
  refine l_val (v_fieldAddr rfl) rfl ?_
  refine l_val (v_load rfl trivial) rfl ?_
  refine l_val (v_sliceSlk (l := 1) (k' := r.f.ranges.length - 1) rfl rfl hne rfl) rfl ?_
  refine l_val (v_lenS rfl) rfl ?_
  refine l_val (v_move (v := .int .i64 (0 : Nat)) rfl) rfl ?_
  refine l_nil ?_
  refine a_normal ?_
  refine w_block ?_
  generalize hpre : (xs ++ [2] ++ vint (rg r.f.ranges 0).hi ++ vint (r.f.ranges.length - 1) ++ vint ((rg r.f.ranges 0).hi - (rg r.f.ranges 0).lo)) = pre at *
  have hpl : pre.length < 200000000000 := by rw [← hpre]; simp only [List.length_append, List.length_cons, List.length_nil]; omega
  refine w_loop (α := Nat × Option Addr × Nat × Nat × Nat × List Value) (fun z => [(0, .slice z.2.1 (pre ++ encRs r.f.ranges z.1).length z.2.2.2.2.1), (1, ptr fb 0), (38, .slice (sp r.p r.c 1 2) (r.f.ranges.length - 1) (r.c - 1)), (39, iN (r.f.ranges.length - 1)), (40, iN z.1)]) (fun z => arr z.2.2.1 z.2.2.2.1 (pre ++ encRs r.f.ranges z.1) z.2.2.2.2.2 * (HP.pts fb 0 (encRF r) * R))
    (fun z => z.1 ≤ r.f.ranges.length - 1 ∧ Sl z.2.1 z.2.2.1 z.2.2.2.1 (pre ++ encRs r.f.ranges z.1).length z.2.2.2.2.1 ∧ (pre ++ encRs r.f.ranges z.1).length * 1 + z.2.2.2.2.2.length = z.2.2.2.2.1 * 1) (fun z => r.f.ranges.length - 1 - z.1) (0, p33, b33, o33, c33, s33) ⟨Nat.zero_le _, by simpa [encRs] using hs33, by simpa [encRs] using hc33⟩ (by simp only [encRs, List.append_nil]; exact .cons rfl (.cons rfl (.cons rfl (.cons rfl (.cons rfl .nil))))) (by simp only [encRs, List.append_nil]) ?_
  rintro ⟨i, p9, b9, o9, c9, s9⟩ ⟨hi, hs9, hc9⟩
  dsimp only at hi hs9 hc9 ⊢
  have hel := encRs_length r.f.ranges i
  have hyl : (pre ++ encRs r.f.ranges i).length < 900000000000 := by simp; omega
  generalize hys : pre ++ encRs r.f.ranges i = ys at *
  refine w_seq ?_
  refine w_region rfl ?_
  refine l_val (v_lss rfl rfl) rfl ?_
  refine l_nil ?_
  refine a_normal ?_
  refine w_seq ?_
  refine w_condD rfl (fun hlt => ?_) (fun hlt => ?_)
  · skip
    have hk := hok.2 (i + 1) (by omega)
    have hk0 := hok.2 i (by omega)
    unfold okR at hk hk0
    simp only [Nat.add_sub_cancel] at hk
    refine w_skip ?_
    refine a_normal ?_
    refine w_seq ?_
    refine w_block ?_
    refine w_seq ?_
    refine w_region rfl ?_
    refine l_val (v_move rfl) rfl ?_
    refine l_val (v_indexAddrRe (b := r.b) (o := r.o + 1 * 2) (q := r.o + (i + 1) * 2) rfl rfl (sp_sl hrok hne hrok.2) hlt (by omega)) rfl ?_
    refine l_val (v_loadRg (i := i + 1) (xs := r.f.ranges) rfl inferInstance (by omega)) rfl ?_
    refine l_eff (e_alloc (l := [_, _]) rfl) rfl ?_
    rintro _ _ ⟨b7, rfl, rfl⟩
    refine l_val (v_assign rfl) rfl ?_
    refine l_eff0 (e_storeA rfl rfl (by constructor <;> rfl) (by simp [Value.oneCell'])) ?_
    rintro _ _ ⟨rfl, rfl⟩
    refine l_nil ?_
    refine a_normal ?_
    refine w_heap (H' := arr b9 o9 ys s9 * (HP.pts b7 0 [uN (rg r.f.ranges (i + 1)).lo, uN (rg r.f.ranges (i + 1)).hi] * (HP.pts fb 0 (encRF r) * R))) (HP.left_comm _ _ _) ?_
    have v1 := vint_length ((rg r.f.ranges i).lo - (rg r.f.ranges (i + 1)).hi - 2)
    refine w_any (HP.pts b7 0 [uN (rg r.f.ranges (i + 1)).lo, uN (rg r.f.ranges (i + 1)).hi] * (HP.pts fb 0 (encRF r) * R)) 21 21 mixed rfl (by kernel_rfl) ?_
    refine s_take 0 rfl (by kernel_rfl) rfl (v_move rfl) ?_
    refine s_take 1 rfl (by kernel_rfl) rfl (v_move rfl) ?_
    refine s_take 2 rfl (by kernel_rfl) rfl (v_nilCheck rfl) ?_
    refine s_take 3 rfl (by kernel_rfl) rfl (v_fieldAddr rfl) ?_
    refine s_take 4 rfl (by kernel_rfl) rfl (v_load rfl trivial) ?_
    refine s_take 5 rfl (by kernel_rfl) rfl (v_move rfl) ?_
    refine s_take 6 rfl (by kernel_rfl) rfl (v_indexAddrR (b := r.b) (o := r.o) rfl rfl hrok (by omega)) ?_
    refine s_take 7 rfl (by kernel_rfl) rfl (v_fieldAddr rfl) ?_
    refine s_take 8 rfl (by kernel_rfl) rfl (v_loadLo (i := i) (xs := r.f.ranges) rfl inferInstance (by omega)) ?_
    refine s_take 9 rfl (by kernel_rfl) rfl (v_fieldAddr rfl) ?_
    refine s_take 10 rfl (by kernel_rfl) rfl (v_load rfl trivial) ?_
    refine s_take 11 rfl (by kernel_rfl) rfl (v_subU rfl rfl (by omega)) ?_
    refine s_take 12 rfl (by kernel_rfl) rfl (v_subU (j := 2) rfl rfl (by omega)) ?_
    refine s_take 14 rfl (by kernel_rfl) rfl (v_fieldAddr rfl) ?_
    refine s_take 15 rfl (by kernel_rfl) rfl (v_load rfl trivial) ?_
    refine s_take 16 rfl (by kernel_rfl) rfl (v_fieldAddr rfl) ?_
    refine s_take 17 rfl (by kernel_rfl) rfl (v_load rfl trivial) ?_
    refine s_take 18 rfl (by kernel_rfl) rfl (v_subU rfl rfl (by omega)) ?_
    refine s_eff 13 (by kernel_rfl) rfl rfl (e_call rfl (varint_spec ((rg r.f.ranges i).lo - (rg r.f.ranges (i + 1)).hi - 2) (by omega) p9 b9 o9 c9 (ys) s9 _ hs9 hc9 (by first | omega | (simp; omega)))) ?_
    rintro _ _ ⟨p58, b58, o58, c58, s58, rfl, hs58, hc58, rfl⟩
    refine ⟨.inr inferInstance, ?_⟩
    refine s_eff 19 (by kernel_rfl) rfl rfl (e_call rfl (varint_spec ((rg r.f.ranges (i + 1)).hi - (rg r.f.ranges (i + 1)).lo) (by omega) p58 b58 o58 c58 (ys ++ vint ((rg r.f.ranges i).lo - (rg r.f.ranges (i + 1)).hi - 2)) s58 _ hs58 hc58 (by simp; omega))) ?_
    rintro _ _ ⟨p64, b64, o64, c64, s64, rfl, hs64, hc64, rfl⟩
    rw [← hys, enc_step] at hs64 hc64 ⊢
    refine ⟨.inr inferInstance, ?_⟩
    refine s_take 20 rfl (by kernel_rfl) rfl (v_assign rfl) ?_
    refine s_done (by kernel_rfl) ?_
    refine a_bnormal ?_
    refine a_normal ?_
    refine w_region rfl ?_
    refine l_val (v_addI (j := 1) rfl rfl (by omega)) rfl ?_
    refine l_val (v_move rfl) rfl ?_
    refine l_nil ?_
    exact a_ent (arr b64 o64 (pre ++ encRs r.f.ranges (i + 1)) s64 * (HP.pts fb 0 (encRF r) * R)) (a_loop (i + 1, p64, b64, o64, c64, s64) ⟨by omega, hs64, hc64⟩ (by show r.f.ranges.length - 1 - (i + 1) < r.f.ranges.length - 1 - i; omega) (.cons rfl (.cons rfl (.cons rfl (.cons rfl (.cons rfl .nil))))) rfl)
  · skip
    have hie : i = r.f.ranges.length - 1 := by omega
    refine w_exit ?_
    refine a_texit ?_
    refine a_texit ?_
    refine a_bexit ?_
    refine a_normal ?_
    refine w_seq ?_
    refine w_region rfl ?_
    refine l_val (v_move rfl) rfl ?_
    refine l_val (v_assign rfl) rfl ?_
    refine l_nil ?_
    refine a_normal ?_
    refine w_ret ?_
    subst hie
    rw [← hys] at hs9 hc9 ⊢
    exact a_retD (ts := [4]) (arr b9 o9 (pre ++ encRs r.f.ranges (r.f.ranges.length - 1)) s9 * (HP.pts fb 0 (encRF r) * R)) rfl rfl (by rw [← hpre] at hs9 hc9 ⊢; exact ⟨p9, b9, o9, c9, s9, rfl, hs9, hc9, rfl⟩)

theorem soundAck_spec (r : RF) (fb : Nat) (R : HP) (hrok : r.ok) (hrd : RdA B R r.b r.o r.f.ranges) (hrl : r.f.ranges.length < 10000000000) :
    Fn Tryd.prog B 75 [ptr fb 0] (HP.pts fb 0 (encRF r) * R) (fun v H' => v = .bool (decide (okRs r.f.ranges)) ∧ H' = HP.pts fb 0 (encRF r) * R) := by
  refine fn_intro Tryd.func75 rfl rfl rfl ?_
  refine w_seq ?_
  refine w_region rfl ?_
  refine l_val (v_assign rfl) rfl ?_
  refine l_nil ?_
  refine a_normal ?_
  refine w_seq ?_
  refine w_seq ?_
  refine w_region rfl ?_
  refine l_val (v_move rfl) rfl ?_
  refine l_val (v_nilCheck rfl) rfl ?_
  refine l_val (v_fieldAddr rfl) rfl ?_
  refine l_val (v_load rfl trivial) rfl ?_
  refine l_val (v_lenS rfl) rfl ?_
  refine l_val (v_move (v := .int .i64 (0 : Nat)) rfl) rfl ?_
  refine l_nil ?_
  refine a_normal ?_
  refine w_block ?_
  refine w_loop (fun i : Nat => [(0, ptr fb 0), (8, .slice r.p r.f.ranges.length r.c), (9, iN r.f.ranges.length), (10, iN i)]) (fun _ => (HP.pts fb 0 (encRF r) * R)) (fun i => i ≤ r.f.ranges.length ∧ ∀ j, j < i → okR r.f.ranges j) (fun i => r.f.ranges.length - i) 0 ⟨Nat.zero_le _, fun j hj => by omega⟩ (.cons rfl (.cons rfl (.cons rfl (.cons rfl .nil)))) rfl ?_
  rintro i ⟨hi, hall⟩
  dsimp only at hi hall ⊢
  refine w_seq ?_
  refine w_region rfl ?_
  refine l_val (v_lss rfl rfl) rfl ?_
  refine l_nil ?_
  refine a_normal ?_
  refine w_seq ?_
  refine w_condD rfl (fun hlt => ?_) (fun hlt => ?_)
  · skip
    refine w_skip ?_
    refine a_normal ?_
    refine w_seq ?_
    refine w_block ?_
    refine w_seq ?_
    refine w_region rfl ?_
    refine l_val (v_move rfl) rfl ?_
    refine l_val (v_indexAddrR (b := r.b) (o := r.o) rfl rfl hrok hlt) rfl ?_
    refine l_val (v_loadRg (i := i) (xs := r.f.ranges) rfl inferInstance hlt) rfl ?_
    refine l_eff (e_alloc (l := [_, _]) rfl) rfl ?_
    rintro _ _ ⟨b4, rfl, rfl⟩
    refine l_val (v_assign rfl) rfl ?_
    refine l_eff0 (e_storeA rfl rfl (by constructor <;> rfl) (by simp [Value.oneCell'])) ?_
    rintro _ _ ⟨rfl, rfl⟩
    refine l_nil ?_
    refine a_normal ?_
    refine w_seq ?_
    refine w_anyH 41 41 mixed rfl (by kernel_rfl) ?_
    refine s_take 0 rfl (by kernel_rfl) rfl (v_fieldAddr rfl) ?_
    refine s_take 1 rfl (by kernel_rfl) rfl (v_load rfl trivial) ?_
    refine s_take 2 rfl (by kernel_rfl) rfl (v_fieldAddr rfl) ?_
    refine s_take 3 rfl (by kernel_rfl) rfl (v_load rfl trivial) ?_
    refine s_take 4 rfl (by kernel_rfl) rfl (v_gtr rfl rfl) ?_
    refine s_take 5 rfl (by kernel_rfl) rfl (v_move rfl) ?_
    refine s_case 20 rfl (fun hg1 => ?_) (fun hg1 => ?_)
    · skip
      refine s_gN 6 rfl (by kernel_rfl) rfl rfl rfl (decide_eq_true hg1) ?_
      refine s_gN 7 rfl (by kernel_rfl) rfl rfl rfl (decide_eq_true hg1) ?_
      refine s_gN 8 rfl (by kernel_rfl) rfl rfl rfl (decide_eq_true hg1) ?_
      refine s_take 9 rfl (by kernel_rfl) rfl (v_pickY (decide_eq_true hg1) rfl rfl) ?_
      refine s_take 10 rfl (by kernel_rfl) rfl (v_move rfl) ?_
      refine s_gN 11 rfl (by kernel_rfl) rfl rfl rfl rfl ?_
      refine s_gN 12 rfl (by kernel_rfl) rfl rfl rfl rfl ?_
      refine s_gN 13 rfl (by kernel_rfl) rfl rfl rfl rfl ?_
      refine s_gU 14 rfl (by kernel_rfl) rfl rfl rfl ?_
      refine s_gU 15 rfl (by kernel_rfl) rfl rfl rfl ?_
      refine s_gU 16 rfl (by kernel_rfl) rfl rfl rfl ?_
      refine s_gU 17 rfl (by kernel_rfl) rfl rfl rfl ?_
      refine s_gU 18 rfl (by kernel_rfl) rfl rfl rfl ?_
      refine s_gU 19 rfl (by kernel_rfl) rfl rfl rfl ?_
      refine s_gU 20 rfl (by kernel_rfl) rfl rfl rfl ?_
      refine s_gU 21 rfl (by kernel_rfl) rfl rfl rfl ?_
      refine s_gU 22 rfl (by kernel_rfl) rfl rfl rfl ?_
      refine s_gU 23 rfl (by kernel_rfl) rfl rfl rfl ?_
      refine s_gU 24 rfl (by kernel_rfl) rfl rfl rfl ?_
      refine s_gU 25 rfl (by kernel_rfl) rfl rfl rfl ?_
      refine s_gU 26 rfl (by kernel_rfl) rfl rfl rfl ?_
      refine s_gU 27 rfl (by kernel_rfl) rfl rfl rfl ?_
      refine s_gU 28 rfl (by kernel_rfl) rfl rfl rfl ?_
      refine s_gU 29 rfl (by kernel_rfl) rfl rfl rfl ?_
      refine s_gU 30 rfl (by kernel_rfl) rfl rfl rfl ?_
      refine s_gU 31 rfl (by kernel_rfl) rfl rfl rfl ?_
      refine s_gU 32 rfl (by kernel_rfl) rfl rfl rfl ?_
      refine s_gU 33 rfl (by kernel_rfl) rfl rfl rfl ?_
      refine s_gU 34 rfl (by kernel_rfl) rfl rfl rfl ?_
      refine s_gU 35 rfl (by kernel_rfl) rfl rfl rfl ?_
      refine s_gU 36 rfl (by kernel_rfl) rfl rfl rfl ?_
      refine s_gU 37 rfl (by kernel_rfl) rfl rfl rfl ?_
      refine s_gU 38 rfl (by kernel_rfl) rfl rfl rfl ?_
      refine s_gN 39 rfl (by kernel_rfl) rfl rfl rfl rfl ?_
      refine s_take 40 rfl (by kernel_rfl) rfl (v_pickY rfl rfl rfl) ?_
      refine s_done (by kernel_rfl) ?_
      refine a_normal ?_
      refine w_condY rfl rfl ?_
      refine w_seq ?_
      refine w_region rfl ?_
      refine l_val (v_assign rfl) rfl ?_
      refine l_nil ?_
      refine a_normal ?_
      refine w_ret ?_
      refine a_bret ?_
      refine a_tret ?_
      refine a_tret ?_
      refine a_bret ?_
      refine a_tret ?_
      first | exact a_retD (ts := [2]) (HP.pts fb 0 (encRF r) * R) rfl rfl ⟨congrArg Value.bool (decide_eq_false (fun h => by have h1 := h.2 i hlt; unfold okR at h1; omega)).symm, rfl⟩ | exact a_retD (ts := [2]) (HP.pts fb 0 (encRF r) * R) rfl rfl ⟨congrArg Value.bool (decide_eq_decide.2 ⟨fun h => ⟨List.length_pos_iff.1 h, hdone⟩, fun h => List.length_pos_iff.2 h.1⟩), rfl⟩
    · skip
      refine s_gY 6 rfl (by kernel_rfl) rfl rfl rfl (decide_eq_false hg1) (v_fieldAddr rfl) ?_
      refine s_gY 7 rfl (by kernel_rfl) rfl rfl rfl (decide_eq_false hg1) (v_load rfl trivial) ?_
      refine s_gY 8 rfl (by kernel_rfl) rfl rfl rfl (decide_eq_false hg1) (v_gtr (j := 4611686018427387903) rfl rfl) ?_
      refine s_take 9 rfl (by kernel_rfl) rfl (v_pickN (decide_eq_false hg1) rfl rfl) ?_
      refine s_take 10 rfl (by kernel_rfl) rfl (v_move rfl) ?_
      refine s_case 25 rfl (fun hg2 => ?_) (fun hg2 => ?_)
      · skip
        refine s_gN 11 rfl (by kernel_rfl) rfl rfl rfl (decide_eq_true hg2) ?_
        refine s_gN 12 rfl (by kernel_rfl) rfl rfl rfl (decide_eq_true hg2) ?_
        refine s_gN 13 rfl (by kernel_rfl) rfl rfl rfl (decide_eq_true hg2) ?_
        refine s_gU 14 rfl (by kernel_rfl) rfl rfl rfl ?_
        refine s_gU 15 rfl (by kernel_rfl) rfl rfl rfl ?_
        refine s_gU 16 rfl (by kernel_rfl) rfl rfl rfl ?_
        refine s_gU 17 rfl (by kernel_rfl) rfl rfl rfl ?_
        refine s_gU 18 rfl (by kernel_rfl) rfl rfl rfl ?_
        refine s_gU 19 rfl (by kernel_rfl) rfl rfl rfl ?_
        refine s_gU 20 rfl (by kernel_rfl) rfl rfl rfl ?_
        refine s_gU 21 rfl (by kernel_rfl) rfl rfl rfl ?_
        refine s_gU 22 rfl (by kernel_rfl) rfl rfl rfl ?_
        refine s_gU 23 rfl (by kernel_rfl) rfl rfl rfl ?_
        refine s_gU 24 rfl (by kernel_rfl) rfl rfl rfl ?_
        refine s_gU 25 rfl (by kernel_rfl) rfl rfl rfl ?_
        refine s_gU 26 rfl (by kernel_rfl) rfl rfl rfl ?_
        refine s_gU 27 rfl (by kernel_rfl) rfl rfl rfl ?_
        refine s_gU 28 rfl (by kernel_rfl) rfl rfl rfl ?_
        refine s_gU 29 rfl (by kernel_rfl) rfl rfl rfl ?_
        refine s_gU 30 rfl (by kernel_rfl) rfl rfl rfl ?_
        refine s_gU 31 rfl (by kernel_rfl) rfl rfl rfl ?_
        refine s_gU 32 rfl (by kernel_rfl) rfl rfl rfl ?_
        refine s_gU 33 rfl (by kernel_rfl) rfl rfl rfl ?_
        refine s_gU 34 rfl (by kernel_rfl) rfl rfl rfl ?_
        refine s_gU 35 rfl (by kernel_rfl) rfl rfl rfl ?_
        refine s_gU 36 rfl (by kernel_rfl) rfl rfl rfl ?_
        refine s_gU 37 rfl (by kernel_rfl) rfl rfl rfl ?_
        refine s_gU 38 rfl (by kernel_rfl) rfl rfl rfl ?_
        refine s_gN 39 rfl (by kernel_rfl) rfl rfl rfl (decide_eq_true hg2) ?_
        refine s_take 40 rfl (by kernel_rfl) rfl (v_pickY (decide_eq_true hg2) rfl rfl) ?_
        refine s_done (by kernel_rfl) ?_
        refine a_normal ?_
        refine w_condY rfl rfl ?_
        refine w_seq ?_
        refine w_region rfl ?_
        refine l_val (v_assign rfl) rfl ?_
        refine l_nil ?_
        refine a_normal ?_
        refine w_ret ?_
        refine a_bret ?_
        refine a_tret ?_
        refine a_tret ?_
        refine a_bret ?_
        refine a_tret ?_
        first | exact a_retD (ts := [2]) (HP.pts fb 0 (encRF r) * R) rfl rfl ⟨congrArg Value.bool (decide_eq_false (fun h => by have h1 := h.2 i hlt; unfold okR at h1; omega)).symm, rfl⟩ | exact a_retD (ts := [2]) (HP.pts fb 0 (encRF r) * R) rfl rfl ⟨congrArg Value.bool (decide_eq_decide.2 ⟨fun h => ⟨List.length_pos_iff.1 h, hdone⟩, fun h => List.length_pos_iff.2 h.1⟩), rfl⟩
      · skip
        refine s_gY 11 rfl (by kernel_rfl) rfl rfl rfl (decide_eq_false hg2) (v_move rfl) ?_
        refine s_gY 12 rfl (by kernel_rfl) rfl rfl rfl (decide_eq_false hg2) (v_gtr (j := 0) rfl rfl) ?_
        refine s_gY 13 rfl (by kernel_rfl) rfl rfl rfl (decide_eq_false hg2) (v_move rfl) ?_
        refine s_case 28 rfl (fun hg3 => ?_) (fun hg3 => ?_)
        · skip
          refine s_gY 14 rfl (by kernel_rfl) rfl rfl rfl (decide_eq_true hg3) (v_move rfl) ?_
          refine s_gY 15 rfl (by kernel_rfl) rfl rfl rfl (decide_eq_true hg3) (v_nilCheck rfl) ?_
          refine s_gY 16 rfl (by kernel_rfl) rfl rfl rfl (decide_eq_true hg3) (v_fieldAddr rfl) ?_
          refine s_gY 17 rfl (by kernel_rfl) rfl rfl rfl (decide_eq_true hg3) (v_load rfl trivial) ?_
          refine s_gY 18 rfl (by kernel_rfl) rfl rfl rfl (decide_eq_true hg3) (v_move rfl) ?_
          refine s_gY 19 rfl (by kernel_rfl) rfl rfl rfl (decide_eq_true hg3) (v_subI (j := 1) rfl rfl (by omega)) ?_
          refine s_gY 20 rfl (by kernel_rfl) rfl rfl rfl (decide_eq_true hg3) (v_indexAddrR (b := r.b) (o := r.o) rfl rfl hrok (by omega)) ?_
          refine s_gY 21 rfl (by kernel_rfl) rfl rfl rfl (decide_eq_true hg3) (v_fieldAddr rfl) ?_
          refine s_gY 22 rfl (by kernel_rfl) rfl rfl rfl (decide_eq_true hg3) (v_loadLo (i := i - 1) (xs := r.f.ranges) rfl inferInstance (by omega)) ?_
          refine s_gY 23 rfl (by kernel_rfl) rfl rfl rfl (decide_eq_true hg3) (v_lss (j := 2) rfl rfl) ?_
          refine s_gY 24 rfl (by kernel_rfl) rfl rfl rfl (decide_eq_true hg3) (v_move rfl) ?_
          refine s_case 39 rfl (fun hg4 => ?_) (fun hg4 => ?_)
          · skip
            refine s_gN 25 rfl (by kernel_rfl) rfl rfl rfl (decide_eq_true hg4) ?_
            refine s_gN 26 rfl (by kernel_rfl) rfl rfl rfl (decide_eq_true hg4) ?_
            refine s_gN 27 rfl (by kernel_rfl) rfl rfl rfl (decide_eq_true hg4) ?_
            refine s_gN 28 rfl (by kernel_rfl) rfl rfl rfl (decide_eq_true hg4) ?_
            refine s_gN 29 rfl (by kernel_rfl) rfl rfl rfl (decide_eq_true hg4) ?_
            refine s_gN 30 rfl (by kernel_rfl) rfl rfl rfl (decide_eq_true hg4) ?_
            refine s_gN 31 rfl (by kernel_rfl) rfl rfl rfl (decide_eq_true hg4) ?_
            refine s_gN 32 rfl (by kernel_rfl) rfl rfl rfl (decide_eq_true hg4) ?_
            refine s_gN 33 rfl (by kernel_rfl) rfl rfl rfl (decide_eq_true hg4) ?_
            refine s_gN 34 rfl (by kernel_rfl) rfl rfl rfl (decide_eq_true hg4) ?_
            refine s_gN 35 rfl (by kernel_rfl) rfl rfl rfl (decide_eq_true hg4) ?_
            refine s_gN 36 rfl (by kernel_rfl) rfl rfl rfl (decide_eq_true hg4) ?_
            refine s_gN 37 rfl (by kernel_rfl) rfl rfl rfl (decide_eq_true hg4) ?_
            refine s_gY 38 rfl (by kernel_rfl) rfl rfl rfl (decide_eq_true hg3) (v_pickY (decide_eq_true hg4) rfl rfl) ?_
            refine s_gY 39 rfl (by kernel_rfl) rfl rfl rfl (decide_eq_false hg2) (v_pickY (decide_eq_true hg3) rfl rfl) ?_
            refine s_take 40 rfl (by kernel_rfl) rfl (v_pickN (decide_eq_false hg2) rfl rfl) ?_
            refine s_done (by kernel_rfl) ?_
            refine a_normal ?_
            refine w_condY rfl rfl ?_
            refine w_seq ?_
            refine w_region rfl ?_
            refine l_val (v_assign rfl) rfl ?_
            refine l_nil ?_
            refine a_normal ?_
            refine w_ret ?_
            refine a_bret ?_
            refine a_tret ?_
            refine a_tret ?_
            refine a_bret ?_
            refine a_tret ?_
            first | exact a_retD (ts := [2]) (HP.pts fb 0 (encRF r) * R) rfl rfl ⟨congrArg Value.bool (decide_eq_false (fun h => by have h1 := h.2 i hlt; unfold okR at h1; omega)).symm, rfl⟩ | exact a_retD (ts := [2]) (HP.pts fb 0 (encRF r) * R) rfl rfl ⟨congrArg Value.bool (decide_eq_decide.2 ⟨fun h => ⟨List.length_pos_iff.1 h, hdone⟩, fun h => List.length_pos_iff.2 h.1⟩), rfl⟩
          · skip
            refine s_gY 25 rfl (by kernel_rfl) rfl rfl rfl (decide_eq_false hg4) (v_fieldAddr rfl) ?_
            refine s_gY 26 rfl (by kernel_rfl) rfl rfl rfl (decide_eq_false hg4) (v_load rfl trivial) ?_
            refine s_gY 27 rfl (by kernel_rfl) rfl rfl rfl (decide_eq_false hg4) (v_move rfl) ?_
            refine s_gY 28 rfl (by kernel_rfl) rfl rfl rfl (decide_eq_false hg4) (v_nilCheck rfl) ?_
            refine s_gY 29 rfl (by kernel_rfl) rfl rfl rfl (decide_eq_false hg4) (v_fieldAddr rfl) ?_
            refine s_gY 30 rfl (by kernel_rfl) rfl rfl rfl (decide_eq_false hg4) (v_load rfl trivial) ?_
            refine s_gY 31 rfl (by kernel_rfl) rfl rfl rfl (decide_eq_false hg4) (v_move rfl) ?_
            refine s_gY 32 rfl (by kernel_rfl) rfl rfl rfl (decide_eq_false hg4) (v_subI (j := 1) rfl rfl (by omega)) ?_
            refine s_gY 33 rfl (by kernel_rfl) rfl rfl rfl (decide_eq_false hg4) (v_indexAddrR (b := r.b) (o := r.o) rfl rfl hrok (by omega)) ?_
            refine s_gY 34 rfl (by kernel_rfl) rfl rfl rfl (decide_eq_false hg4) (v_fieldAddr rfl) ?_
            refine s_gY 35 rfl (by kernel_rfl) rfl rfl rfl (decide_eq_false hg4) (v_loadLo (i := i - 1) (xs := r.f.ranges) rfl inferInstance (by omega)) ?_
            refine s_gY 36 rfl (by kernel_rfl) rfl rfl rfl (decide_eq_false hg4) (v_subU (j := 2) rfl rfl (by have hp := hall (i - 1) (by omega); unfold okR at hp; omega)) ?_
            refine s_gY 37 rfl (by kernel_rfl) rfl rfl rfl (decide_eq_false hg4) (v_gtr rfl rfl) ?_
            refine s_gY 38 rfl (by kernel_rfl) rfl rfl rfl (decide_eq_true hg3) (v_pickN (decide_eq_false hg4) rfl rfl) ?_
            refine s_gY 39 rfl (by kernel_rfl) rfl rfl rfl (decide_eq_false hg2) (v_pickY (decide_eq_true hg3) rfl rfl) ?_
            refine s_take 40 rfl (by kernel_rfl) rfl (v_pickN (decide_eq_false hg2) rfl rfl) ?_
            refine s_done (by kernel_rfl) ?_
            refine a_normal ?_
            refine w_condD rfl (fun hbad => ?_) (fun hbad => ?_)
            · skip
              refine w_seq ?_
              refine w_region rfl ?_
              refine l_val (v_assign rfl) rfl ?_
              refine l_nil ?_
              refine a_normal ?_
              refine w_ret ?_
              refine a_bret ?_
              refine a_tret ?_
              refine a_tret ?_
              refine a_bret ?_
              refine a_tret ?_
              first | exact a_retD (ts := [2]) (HP.pts fb 0 (encRF r) * R) rfl rfl ⟨congrArg Value.bool (decide_eq_false (fun h => by have h1 := h.2 i hlt; unfold okR at h1; omega)).symm, rfl⟩ | exact a_retD (ts := [2]) (HP.pts fb 0 (encRF r) * R) rfl rfl ⟨congrArg Value.bool (decide_eq_decide.2 ⟨fun h => ⟨List.length_pos_iff.1 h, hdone⟩, fun h => List.length_pos_iff.2 h.1⟩), rfl⟩
            · skip
              refine w_skip ?_
              refine a_bnormal ?_
              refine a_normal ?_
              refine w_region rfl ?_
              refine l_val (v_addI (j := 1) rfl rfl (by omega)) rfl ?_
              refine l_val (v_move rfl) rfl ?_
              refine l_nil ?_
              refine a_ent (HP.pts fb 0 (encRF r) * R) (a_loop (i + 1) ⟨hlt, fun j hj => ?_⟩ (by omega) (.cons rfl (.cons rfl (.cons rfl (.cons rfl .nil)))) rfl)
              rcases Nat.lt_succ_iff_lt_or_eq.1 hj with h | rfl
              · exact hall j h
              · unfold okR; omega
        · skip
          refine s_gN 14 rfl (by kernel_rfl) rfl rfl rfl (decide_eq_false hg3) ?_
          refine s_gN 15 rfl (by kernel_rfl) rfl rfl rfl (decide_eq_false hg3) ?_
          refine s_gN 16 rfl (by kernel_rfl) rfl rfl rfl (decide_eq_false hg3) ?_
          refine s_gN 17 rfl (by kernel_rfl) rfl rfl rfl (decide_eq_false hg3) ?_
          refine s_gN 18 rfl (by kernel_rfl) rfl rfl rfl (decide_eq_false hg3) ?_
          refine s_gN 19 rfl (by kernel_rfl) rfl rfl rfl (decide_eq_false hg3) ?_
          refine s_gN 20 rfl (by kernel_rfl) rfl rfl rfl (decide_eq_false hg3) ?_
          refine s_gN 21 rfl (by kernel_rfl) rfl rfl rfl (decide_eq_false hg3) ?_
          refine s_gN 22 rfl (by kernel_rfl) rfl rfl rfl (decide_eq_false hg3) ?_
          refine s_gN 23 rfl (by kernel_rfl) rfl rfl rfl (decide_eq_false hg3) ?_
          refine s_gN 24 rfl (by kernel_rfl) rfl rfl rfl (decide_eq_false hg3) ?_
          refine s_gU 25 rfl (by kernel_rfl) rfl rfl rfl ?_
          refine s_gU 26 rfl (by kernel_rfl) rfl rfl rfl ?_
          refine s_gU 27 rfl (by kernel_rfl) rfl rfl rfl ?_
          refine s_gU 28 rfl (by kernel_rfl) rfl rfl rfl ?_
          refine s_gU 29 rfl (by kernel_rfl) rfl rfl rfl ?_
          refine s_gU 30 rfl (by kernel_rfl) rfl rfl rfl ?_
          refine s_gU 31 rfl (by kernel_rfl) rfl rfl rfl ?_
          refine s_gU 32 rfl (by kernel_rfl) rfl rfl rfl ?_
          refine s_gU 33 rfl (by kernel_rfl) rfl rfl rfl ?_
          refine s_gU 34 rfl (by kernel_rfl) rfl rfl rfl ?_
          refine s_gU 35 rfl (by kernel_rfl) rfl rfl rfl ?_
          refine s_gU 36 rfl (by kernel_rfl) rfl rfl rfl ?_
          refine s_gU 37 rfl (by kernel_rfl) rfl rfl rfl ?_
          refine s_gN 38 rfl (by kernel_rfl) rfl rfl rfl (decide_eq_false hg3) ?_
          refine s_gY 39 rfl (by kernel_rfl) rfl rfl rfl (decide_eq_false hg2) (v_pickN (decide_eq_false hg3) rfl rfl) ?_
          refine s_take 40 rfl (by kernel_rfl) rfl (v_pickN (decide_eq_false hg2) rfl rfl) ?_
          refine s_done (by kernel_rfl) ?_
          refine a_normal ?_
          refine w_condN rfl rfl ?_
          refine w_skip ?_
          refine a_bnormal ?_
          refine a_normal ?_
          refine w_region rfl ?_
          refine l_val (v_addI (j := 1) rfl rfl (by omega)) rfl ?_
          refine l_val (v_move rfl) rfl ?_
          refine l_nil ?_
          refine a_ent (HP.pts fb 0 (encRF r) * R) (a_loop (i + 1) ⟨hlt, fun j hj => ?_⟩ (by omega) (.cons rfl (.cons rfl (.cons rfl (.cons rfl .nil)))) rfl)
          rcases Nat.lt_succ_iff_lt_or_eq.1 hj with h | rfl
          · exact hall j h
          · unfold okR; omega
  · skip
    have hie : i = r.f.ranges.length := by omega
    have hdone : ∀ j, j < r.f.ranges.length → okR r.f.ranges j := hie ▸ hall
    refine w_exit ?_
    refine a_texit ?_
    refine a_texit ?_
    refine a_bexit ?_
    refine a_normal ?_
    refine w_seq ?_
    refine w_region rfl ?_
    refine l_val (v_move rfl) rfl ?_
    refine l_val (v_nilCheck rfl) rfl ?_
    refine l_val (v_fieldAddr rfl) rfl ?_
    refine l_val (v_load rfl trivial) rfl ?_
    refine l_val (v_lenS rfl) rfl ?_
    refine l_val (v_gtr (j := 0) rfl rfl) rfl ?_
    refine l_val (v_assign rfl) rfl ?_
    refine l_nil ?_
    refine a_normal ?_
    refine w_ret ?_
    first | exact a_retD (ts := [2]) (HP.pts fb 0 (encRF r) * R) rfl rfl ⟨congrArg Value.bool (decide_eq_false (fun h => by have h1 := h.2 i hlt; unfold okR at h1; omega)).symm, rfl⟩ | exact a_retD (ts := [2]) (HP.pts fb 0 (encRF r) * R) rfl rfl ⟨congrArg Value.bool (decide_eq_decide.2 ⟨fun h => ⟨List.length_pos_iff.1 h, hdone⟩, fun h => List.length_pos_iff.2 h.1⟩), rfl⟩
end Go.Proofs.YtgfdlpcdjklcoaaDoor
