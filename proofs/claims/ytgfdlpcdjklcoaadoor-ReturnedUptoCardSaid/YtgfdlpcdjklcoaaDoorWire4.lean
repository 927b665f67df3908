/- Contracts of package wire: frames read; no condition. -/
import Derived.Test.YtgfdlpcdjklcoaaDoorWire3
namespace Go.Proofs.YtgfdlpcdjklcoaaDoor
open Go Go.RowKit
set_option linter.unusedVariables false
set_option maxRecDepth 20000
variable {B : World}
/-- the reader in memory -/
abbrev rdr (rb : Nat) (p : Option Addr) (c : Nat) (xs : List UInt8) (a : Nat) : HP := HP.pts rb 0 [.slice p xs.length c, iN a]
/-- what it throws -/
abbrev pnS : List PanicEntry := pn (.iface 101 (.agg #[]))
theorem sp1 {p : Option Addr} {b o k c a n : Nat} (hs : Sl p b o k c) (h : a + n ≤ k) : Sl (sp p c a 1) b (o + a * 1) n (c - a) := by
  have := sp_sl (sz := 1) hs (l := a) (h := a + n) (by omega) (by have := hs.2; omega)
  rwa [Nat.add_sub_cancel_left] at this
theorem and63 (x : Nat) : x &&& 63 = x % 64 := Nat.and_two_pow_sub_one_eq_mod x 6
theorem or_step (n x : Nat) (hn : n < 72057594037927936) (hx : x < 256) : (n * 2 ^ 8 % 18446744073709551616) ||| x = n * 256 + x := by
  have h : n * 2 ^ 8 % 18446744073709551616 = 2 ^ 8 * n := by omega
  rw [h, ← Nat.two_pow_add_eq_or_of_lt (by omega : x < 2 ^ 8)]; omega
theorem sz_eq (xs : List UInt8) (a : Nat) : 1 * 2 ^ ((xs.getD a 0).toNat / 2 ^ 6) % 18446744073709551616 = szAt xs a := by
  have h := szAt_cases xs a
  have e : 1 * 2 ^ ((xs.getD a 0).toNat / 2 ^ 6) = szAt xs a := by rw [Nat.one_mul]; rfl
  rw [e]; omega
section
variable {P : Program} {n : Nat} {E : Env} {D : Dfr} {H : HP} {d : Option Tmp} {T T' ty : TypeId} {pos : String} {af : Array Edge} {g : Option (Nat × Bool)} {x y z : Operand}
theorem v_loadB {b o i : Nat} {xs : List UInt8} [hT : OneC P T] (hx : ev E x = some (.pointer (some ⟨b, o + i * 1, none⟩))) (hr : RdA B H b o xs) (hi : i < xs.length) :
    Val P B n ⟨d, .load T x, ty, pos, af, g⟩ E H (u8 (xs.getD i 0)) := v_loadF (f := 0) hx hr rfl hi
end

theorem fail_x (rb : Nat) (H : HP) : FnX Tryd.prog B 60 [ptr rb 0] H (fun _ _ => False) (fun c H' => c = pnS ∧ H' = H) := by
  refine fn_introX Tryd.func60 rfl rfl rfl ?_
  refine w_region rfl ?_
  refine l_val (v_mkS (cs := []) rfl rfl rfl (by simp)) rfl ?_
  refine l_val (v_makeIface (by kernel_rfl) rfl) rfl ?_
  refine l_effX0 (x_panic (Post := fun _ _ => False) rfl) ?_ ?_
  rotate_left
  · rintro _ _ ⟨rfl, rfl⟩
    exact a_panicX ⟨rfl, rfl⟩
  exact fun _ _ h => h.elim

theorem take_x (n : Nat) (hn : n < 9223372036854775808) (rb : Nat) (p : Option Addr) (b o c : Nat) (xs : List UInt8) (a : Nat) (R : HP) (hs : Sl p b o xs.length c) (hr : RdA B R b o xs) (hx : xs.length < 100000000000) (ha : a ≤ xs.length) :
    FnX Tryd.prog B 61 [ptr rb 0, uN n] (rdr rb p c xs a * R) (fun v H' => n ≤ xs.length - a ∧ v = .slice (sp p c a 1) n (c - a) ∧ H' = rdr rb p c xs (a + n) * R) (fun ch H' => xs.length - a < n ∧ ch = pnS ∧ H' = R) := by
  refine fn_introX Tryd.func61 rfl rfl rfl ?_
  refine w_seq ?_
  refine w_region rfl ?_
  refine l_val (v_assign rfl) rfl ?_
  refine l_nil ?_
  refine a_normal ?_
  refine w_seq ?_
  refine w_seq ?_
  refine w_anyH 13 13 mixed rfl (by kernel_rfl) ?_
  refine s_take 0 rfl (by kernel_rfl) rfl (v_move rfl) ?_
  refine s_take 1 rfl (by kernel_rfl) rfl (v_move rfl) ?_
  refine s_take 2 rfl (by kernel_rfl) rfl (v_nilCheck rfl) ?_
  refine s_take 3 rfl (by kernel_rfl) rfl (v_fieldAddr rfl) ?_
  refine s_take 4 rfl (by kernel_rfl) rfl (v_load rfl trivial) ?_
  refine s_take 5 rfl (by kernel_rfl) rfl (v_lenS rfl) ?_
  refine s_take 6 rfl (by kernel_rfl) rfl (v_move rfl) ?_
  refine s_take 7 rfl (by kernel_rfl) rfl (v_nilCheck rfl) ?_
  refine s_take 8 rfl (by kernel_rfl) rfl (v_fieldAddr rfl) ?_
  refine s_take 9 rfl (by kernel_rfl) rfl (v_load rfl trivial) ?_
  refine s_take 10 rfl (by kernel_rfl) rfl (v_subI rfl rfl (by omega)) ?_
  refine s_take 11 rfl (by kernel_rfl) rfl (v_conv rfl (fit_u64 (by omega))) ?_
  refine s_take 12 rfl (by kernel_rfl) rfl (v_gtr rfl rfl) ?_
  refine s_done (by kernel_rfl) ?_
  refine a_normal ?_
  refine w_condD rfl (fun hbad => ?_) (fun hok => ?_)
  · skip
    refine w_region rfl ?_
    refine l_val (v_move rfl) rfl ?_
    refine l_effX (x_call rfl (fail_x rb _)) rfl ?_ ?_
    rotate_left
    · rintro _ _ ⟨rfl, rfl⟩
      refine a_tpanic ?_
      exact a_panicXE R ⟨by omega, rfl, rfl⟩
    exact fun _ _ h => h.elim
  · skip
    refine w_skip ?_
    refine a_normal ?_
    refine w_seq ?_
    refine w_region rfl ?_
    refine l_val (v_move rfl) rfl ?_
    refine l_val (v_nilCheck rfl) rfl ?_
    refine l_val (v_fieldAddr rfl) rfl ?_
    refine l_val (v_load rfl trivial) rfl ?_
    refine l_val (v_move rfl) rfl ?_
    refine l_val (v_conv rfl (fit_i64 (by omega))) rfl ?_
    refine l_val (v_addI rfl rfl (by omega)) rfl ?_
    refine l_val (v_nilCheck rfl) rfl ?_
    refine l_val (v_fieldAddr rfl) rfl ?_
    refine l_eff0 (e_store rfl rfl rfl (by first | trivial | omega)) ?_
    rintro _ _ ⟨rfl, rfl⟩
    refine l_nil ?_
    refine a_normal ?_
    refine w_seq ?_
    refine w_anyH 17 17 mixed rfl (by kernel_rfl) ?_
    refine s_take 0 rfl (by kernel_rfl) rfl (v_move rfl) ?_
    refine s_take 1 rfl (by kernel_rfl) rfl (v_nilCheck rfl) ?_
    refine s_take 2 rfl (by kernel_rfl) rfl (v_fieldAddr rfl) ?_
    refine s_take 3 rfl (by kernel_rfl) rfl (v_load rfl trivial) ?_
    refine s_take 4 rfl (by kernel_rfl) rfl (v_move rfl) ?_
    refine s_take 5 rfl (by kernel_rfl) rfl (v_nilCheck rfl) ?_
    refine s_take 6 rfl (by kernel_rfl) rfl (v_fieldAddr rfl) ?_
    refine s_take 7 rfl (by kernel_rfl) rfl (v_load rfl trivial) ?_
    refine s_take 8 rfl (by kernel_rfl) rfl (v_move rfl) ?_
    refine s_take 9 rfl (by kernel_rfl) rfl (v_conv rfl (fit_i64 (by omega))) ?_
    refine s_take 10 rfl (by kernel_rfl) rfl (v_subI rfl rfl (by omega)) ?_
    refine s_take 11 rfl (by kernel_rfl) rfl (v_move rfl) ?_
    refine s_take 12 rfl (by kernel_rfl) rfl (v_nilCheck rfl) ?_
    refine s_take 13 rfl (by kernel_rfl) rfl (v_fieldAddr rfl) ?_
    refine s_take 14 rfl (by kernel_rfl) rfl (v_load rfl trivial) ?_
    refine s_take 15 rfl (by kernel_rfl) rfl (v_sliceSlhk (l := a + n - n) (h := a + n) (k' := n) rfl rfl rfl (by have := hs.2; omega) (by omega)) ?_
    refine s_take 16 rfl (by kernel_rfl) rfl (v_assign rfl) ?_
    refine s_done (by kernel_rfl) ?_
    refine a_normal ?_
    refine w_ret ?_
    refine a_retX (ts := [4]) rfl rfl ⟨by omega, ?_, rfl⟩
    rw [Nat.add_sub_cancel]; rfl

theorem varint_x (rb : Nat) (p : Option Addr) (b o c : Nat) (xs : List UInt8) (a : Nat) (R : HP) (hs : Sl p b o xs.length c) (hr : RdA B R b o xs) (hx : xs.length < 100000000000) (ha : a ≤ xs.length) :
    FnX Tryd.prog B 80 [ptr rb 0] (rdr rb p c xs a * R) (fun v H' => ∃ n a', rdN xs a = some (n, a') ∧ v = uN n ∧ H' = rdr rb p c xs a' * R) (fun ch H' => rdN xs a = none ∧ ch = pnS ∧ H' = R) := by
  refine fn_introX Tryd.func80 rfl rfl rfl ?_
  have hz := sz_eq xs a
  have hzc := szAt_cases xs a
  have hb := (xs.getD a 0).toNat_lt
  refine w_seq ?_
  refine w_region rfl ?_
  refine l_val (v_assign (v := .int .u64 (0 : Nat)) rfl) rfl ?_
  refine l_nil ?_
  refine a_normal ?_
  refine w_seq ?_
  refine w_region rfl ?_
  refine l_val (v_move rfl) rfl ?_
  refine l_effX (x_call rfl (take_x 1 (by omega) rb p b o c xs a R hs hr hx ha)) rfl ?_ ?_
  rotate_left
  · rintro _ _ ⟨h1, rfl, rfl⟩
    refine a_tpanic ?_
    exact a_panicX ⟨by unfold rdN; rw [if_neg (by omega)], rfl, rfl⟩
  rintro _ _ ⟨h1, rfl, rfl⟩
  refine l_val (v_indexAddrRe (i := 0) (b := b) (o := o + a * 1) (q := o + a * 1) rfl rfl (sp1 hs (by omega)) (by omega) (by omega)) rfl ?_
  refine l_val (v_loadB (i := a) (xs := xs) rfl inferInstance (by omega)) rfl ?_
  refine l_val (v_assign rfl) rfl ?_
  refine l_nil ?_
  refine a_normal ?_
  refine w_seq ?_
  refine w_region rfl ?_
  refine l_val (v_move rfl) rfl ?_
  refine l_val (v_and8 (j := 63) rfl rfl ⟨by omega, by omega⟩) rfl ?_
  refine l_val (v_conv rfl (fit_u64 (by rw [and63]; omega))) rfl ?_
  refine l_val (v_assign rfl) rfl ?_
  refine l_nil ?_
  refine a_normal ?_
  refine w_seq ?_
  refine w_seq ?_
  refine w_region rfl ?_
  refine l_val (v_move rfl) rfl ?_
  refine l_val (v_move rfl) rfl ?_
  refine l_val (v_shr8 (j := 6) rfl rfl (by omega)) rfl ?_
  refine l_val (v_shlU (i := 1) rfl rfl (by omega)) rfl ?_
  refine l_val (v_subU (j := 1) rfl rfl (by rw [hz]; omega)) rfl ?_
  refine l_effX (x_call (vs := [ptr rb 0, uN (szAt xs a - 1)]) (by rw [← hz]; rfl) (take_x (szAt xs a - 1) (by omega) rb p b o c xs (a + 1) R hs hr hx (by omega))) rfl ?_ ?_
  rotate_left
  · rintro _ _ ⟨h2, rfl, rfl⟩
    refine a_tpanic ?_
    refine a_tpanic ?_
    exact a_panicX ⟨by unfold rdN; rw [if_neg (by omega)], rfl, rfl⟩
  rintro _ _ ⟨h2, rfl, rfl⟩
  refine l_val (v_lenS rfl) rfl ?_
  refine l_val (v_move (v := .int .i64 (0 : Nat)) rfl) rfl ?_
  refine l_nil ?_
  refine a_normal ?_
  refine w_block ?_
  refine w_loop (fun i : Nat => [(4, uN (numAt xs a i)), (19, .slice (sp p c (a + 1) 1) (szAt xs a - 1) (c - (a + 1))), (20, iN (szAt xs a - 1)), (21, iN i)]) (fun _ => rdr rb p c xs (a + 1 + (szAt xs a - 1)) * R) (fun i => i ≤ szAt xs a - 1) (fun i => szAt xs a - 1 - i) 0 (Nat.zero_le _) (.cons (congrArg (fun z => some (uN z)) (and63 _)) (.cons rfl (.cons rfl (.cons rfl .nil)))) rfl ?_
  rintro i hi
  dsimp only at hi ⊢
  have hnl := numAt_lt xs a i
  have hnl2 : numAt xs a i < 72057594037927936 ∨ szAt xs a - 1 ≤ i := by
    rcases (by omega : szAt xs a - 1 ≤ i ∨ i = 0 ∨ i = 1 ∨ i = 2 ∨ i = 3 ∨ i = 4 ∨ i = 5 ∨ i = 6) with h | rfl | rfl | rfl | rfl | rfl | rfl | rfl
    · exact .inr h
    all_goals (left; simp only [Nat.reducePow, Nat.reduceMul] at hnl; omega)
  have hb2 := bAt_lt xs (a + i + 1)
  refine w_seq ?_
  refine w_region rfl ?_
  refine l_val (v_lss rfl rfl) rfl ?_
  refine l_nil ?_
  refine a_normal ?_
  refine w_seq ?_
  refine w_condD rfl (fun hlt => ?_) (fun hlt => ?_)
  · skip
    refine w_skip ?_
    refine a_normal ?_
    refine w_seq ?_
    refine w_block ?_
    refine w_seq ?_
    refine w_region rfl ?_
    refine l_val (v_indexAddrRe (b := b) (o := o + (a + 1) * 1) (q := o + (a + i + 1) * 1) rfl rfl (sp1 hs (by omega)) hlt (by omega)) rfl ?_
    refine l_val (v_loadB (i := a + i + 1) (xs := xs) rfl inferInstance (by omega)) rfl ?_
    refine l_val (v_assign rfl) rfl ?_
    refine l_nil ?_
    refine a_normal ?_
    refine w_region rfl ?_
    refine l_val (v_move rfl) rfl ?_
    refine l_val (v_shlU (j := 8) rfl rfl (by omega)) rfl ?_
    refine l_val (v_move rfl) rfl ?_
    refine l_val (v_conv rfl (fit_u64 (by have := (xs.getD (a + i + 1) 0).toNat_lt; omega))) rfl ?_
    refine l_val (v_orU rfl rfl ⟨by omega, by have := (xs.getD (a + i + 1) 0).toNat_lt; omega⟩) rfl ?_
    refine l_val (v_assign rfl) rfl ?_
    refine l_nil ?_
    refine a_bnormal ?_
    refine a_normal ?_
    refine w_region rfl ?_
    refine l_val (v_addI (j := 1) rfl rfl (by omega)) rfl ?_
    refine l_val (v_move rfl) rfl ?_
    refine l_nil ?_
    exact a_loop (i + 1) (by show i + 1 ≤ _; omega) (by show szAt xs a - 1 - (i + 1) < szAt xs a - 1 - i; omega) (.cons (congrArg (fun z => some (uN z)) (or_step _ _ (by omega) hb2)) (.cons rfl (.cons rfl (.cons rfl .nil)))) rfl
  · skip
    obtain rfl : i = szAt xs a - 1 := by omega
    refine w_exit ?_
    refine a_texit ?_
    refine a_texit ?_
    refine a_bexit ?_
    refine a_normal ?_
    refine w_seq ?_
    refine w_region rfl ?_
    refine l_val (v_move rfl) rfl ?_
    refine l_val (v_assign rfl) rfl ?_
    refine l_nil ?_
    refine a_normal ?_
    refine w_ret ?_
    refine a_retX (ts := [2]) rfl rfl ⟨_, _, by unfold rdN; rw [if_pos (by omega)], rfl, ?_⟩
    rw [show a + 1 + (szAt xs a - 1) = a + szAt xs a by omega]

theorem stream_x (rb : Nat) (p : Option Addr) (b o c : Nat) (xs : List UInt8) (a : Nat) (R : HP) (hs : Sl p b o xs.length c) (hr : RdA B R b o xs) (hx : xs.length < 100000000000) (ha : a ≤ xs.length) :
    FnX Tryd.prog B 79 [ptr rb 0] (rdr rb p c xs a * R) (fun v H' => ∃ n a', rdS xs a = some (n, a') ∧ v = iN n ∧ H' = rdr rb p c xs a' * R) (fun ch H' => rdS xs a = none ∧ ch = pnS ∧ H' = R) := by
  refine fn_introX Tryd.func79 rfl rfl rfl ?_
  refine w_seq ?_
  refine w_region rfl ?_
  refine l_val (v_assign (v := .int .i64 (0 : Nat)) rfl) rfl ?_
  refine l_nil ?_
  refine a_normal ?_
  refine w_seq ?_
  refine w_region rfl ?_
  refine l_val (v_move rfl) rfl ?_
  refine l_effX (x_call rfl (varint_x rb p b o c xs a _ hs inferInstance hx (by omega))) rfl ?_ ?_
  rotate_left
  · rintro _ _ ⟨e5, rfl, rfl⟩
    refine a_tpanic ?_
    exact a_panicX ⟨by unfold rdS; rw [e5], rfl, rfl⟩
  rintro _ _ ⟨n5, a5, e5, rfl, rfl⟩
  have g5 := rdN_some e5
  refine l_val (v_assign rfl) rfl ?_
  refine l_nil ?_
  refine a_normal ?_
  refine w_seq ?_
  refine w_seq ?_
  refine w_region rfl ?_
  refine l_val (v_move rfl) rfl ?_
  refine l_val (v_geq (j := 4) rfl rfl) rfl ?_
  refine l_nil ?_
  refine a_normal ?_
  refine w_condD rfl (fun hbig => ?_) (fun hbig => ?_)
  · skip
    refine w_region rfl ?_
    refine l_val (v_move rfl) rfl ?_
    refine l_effX (x_call rfl (fail_x rb _)) rfl ?_ ?_
    rotate_left
    · rintro _ _ ⟨rfl, rfl⟩
      refine a_tpanic ?_
      exact a_panicXE R ⟨by unfold rdS; rw [e5]; exact if_neg (by omega), rfl, rfl⟩
    exact fun _ _ h => h.elim
  · skip
    refine w_skip ?_
    refine a_normal ?_
    refine w_seq ?_
    refine w_region rfl ?_
    refine l_val (v_move rfl) rfl ?_
    refine l_val (v_conv rfl (fit_i64 (by omega))) rfl ?_
    refine l_val (v_assign rfl) rfl ?_
    refine l_nil ?_
    refine a_normal ?_
    refine w_ret ?_
    exact a_retX (ts := [2]) rfl rfl ⟨n5, a5, by unfold rdS; rw [e5]; exact if_pos (by omega), rfl, rfl⟩

theorem text_x (rb : Nat) (p : Option Addr) (b o c : Nat) (xs : List UInt8) (a : Nat) (R : HP) (hs : Sl p b o xs.length c) (hr : RdA B R b o xs) (hx : xs.length < 100000000000) (ha : a ≤ xs.length) :
    FnX Tryd.prog B 85 [ptr rb 0] (rdr rb p c xs a * R) (fun v H' => ∃ d a', rdT xs a = some (d, a') ∧ v = .string (bstr d) ∧ H' = rdr rb p c xs a' * R) (fun ch H' => rdT xs a = none ∧ ch = pnS ∧ H' = R) := by
  refine fn_introX Tryd.func85 rfl rfl rfl ?_
  refine w_seq ?_
  refine w_region rfl ?_
  refine l_val (v_assign rfl) rfl ?_
  refine l_nil ?_
  refine a_normal ?_
  refine w_seq ?_
  refine w_region rfl ?_
  refine l_val (v_move rfl) rfl ?_
  refine l_val (v_move rfl) rfl ?_
  refine l_effX (x_call rfl (varint_x rb p b o c xs a _ hs inferInstance hx (by omega))) rfl ?_ ?_
  rotate_left
  · rintro _ _ ⟨e5, rfl, rfl⟩
    refine a_tpanic ?_
    exact a_panicX ⟨by unfold rdT; rw [e5], rfl, rfl⟩
  rintro _ _ ⟨n5, a5, e5, rfl, rfl⟩
  have g5 := rdN_some e5
  refine l_effX (x_call rfl (take_x n5 (by omega) rb p b o c xs a5 R hs hr hx (by omega))) rfl ?_ ?_
  rotate_left
  · rintro _ _ ⟨h6, rfl, rfl⟩
    refine a_tpanic ?_
    exact a_panicX ⟨by unfold rdT; rw [e5]; exact if_neg (by omega), rfl, rfl⟩
  rintro _ _ ⟨h6, rfl, rfl⟩
  have hl6 : ((xs.drop a5).take n5).length = n5 := by simp; omega
  refine l_val (v_bytes2str (xs := (xs.drop a5).take n5) (b := b) (o := o + a5 * 1) (by rw [hl6]; rfl) (by rw [hl6]; exact sp1 hs (by omega)) inferInstance) rfl ?_
  refine l_val (v_assign rfl) rfl ?_
  refine l_nil ?_
  refine a_normal ?_
  refine w_ret ?_
  exact a_retX (ts := [2]) rfl rfl ⟨_, _, by unfold rdT; rw [e5]; exact if_pos (by omega), rfl, rfl⟩
end Go.Proofs.YtgfdlpcdjklcoaaDoor
