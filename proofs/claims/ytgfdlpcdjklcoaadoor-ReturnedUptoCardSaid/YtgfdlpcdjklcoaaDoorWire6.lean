/- Contracts of package wire: Decode; no condition. -/
import Derived.Test.YtgfdlpcdjklcoaaDoorWire5
import Derived.Test.YtgfdlpcdjklcoaaDoorErr5
namespace Go.Proofs.YtgfdlpcdjklcoaaDoor
open Go Go.RowKit
set_option linter.unusedVariables false
set_option maxRecDepth 20000
variable {B : World}
/-- Decode's deferred call -/
abbrev decD (b5 b2 b3 : Nat) : Deferred := { target := .fn (.func 59) [ptr b5 0, ptr b2 0, ptr b3 0].toArray, args := #[] }

theorem clo_ret (b5 b2 b3 : Nat) (H : HP) : FnD Tryd.prog B 59 [ptr b5 0, ptr b2 0, ptr b3 0] .returning .returning H (fun H' => H' = H) := by
  refine clo_intro Tryd.func59 rfl rfl rfl rfl rfl rfl (.inl ⟨rfl, rfl, rfl⟩) fun Q hq => ?_
  refine w_seq ?_
  refine w_region rfl ?_
  refine l_val (v_move rfl) rfl ?_
  refine l_val (v_bin (r := .bool false) rfl rfl (fun w => by kernel_rfl) (fun w => by kernel_rfl)) rfl ?_
  refine l_nil ?_
  refine a_normal ?_
  refine w_cond rfl (fun hc => ?_) (fun hc => ?_)
  · cases hc
  refine w_skip ?_
  exact hq _ _ rfl

theorem clo_pan (b5 b2 b3 e5 : Nat) (lv ev : Value) (R : HP) : FnD Tryd.prog B 59 [ptr b5 0, ptr b2 0, ptr b3 0] (.panicking pnS) (.panicking [{ v := .iface 101 (.agg #[]), recovered := true }]) (HP.pts b5 0 [iN e5] * (HP.pts b2 0 [lv] * (HP.pts b3 0 [ev] * R)))
    (fun H' => ∃ q, H' = fltH q 5 (iN e5) * (HP.pts b5 0 [iN e5] * (HP.pts b2 0 [.slice none 0 0] * (HP.pts b3 0 [flt q] * R)))) := by
  refine clo_intro Tryd.func59 rfl rfl rfl rfl rfl rfl (.inr ⟨[], rfl, rfl⟩) fun Q hq => ?_
  refine w_seq ?_
  refine w_region rfl ?_
  refine l_val (v_move rfl) rfl ?_
  refine l_val (v_bin (r := .bool true) rfl rfl (fun w => by kernel_rfl) (fun w => by kernel_rfl)) rfl ?_
  refine l_nil ?_
  refine a_normal ?_
  refine w_cond rfl (fun hc => ?_) (fun hc => ?_)
  rotate_left
  · cases hc
  refine w_seq ?_
  refine w_seq ?_
  refine w_region rfl ?_
  refine l_val (v_move rfl) rfl ?_
  refine l_val (v_assert (v := .tuple #[.agg #[], .bool true]) rfl (fun w => by kernel_rfl)) rfl ?_
  refine l_val (v_move rfl) rfl ?_
  refine l_val (v_extract rfl rfl) rfl ?_
  refine l_val (v_extract rfl rfl) rfl ?_
  refine l_eff (e_alloc (l := []) rfl) rfl ?_
  rintro _ _ ⟨b4, rfl, rfl⟩
  refine l_eff0 (e_storeA (cs := []) rfl rfl ⟨rfl, rfl⟩ (by simp)) ?_
  rintro _ _ ⟨rfl, rfl⟩
  refine l_val (v_assign rfl) rfl ?_
  refine l_nil ?_
  refine a_normal ?_
  refine w_seq ?_
  refine w_region rfl ?_
  refine l_val (v_move rfl) rfl ?_
  refine l_val (v_not rfl) rfl ?_
  refine l_nil ?_
  refine a_normal ?_
  refine w_cond rfl (fun hc => ?_) (fun hc => ?_)
  · cases hc
  refine w_skip ?_
  refine a_normal ?_
  refine w_region rfl ?_
  refine l_val (v_load rfl trivial) rfl ?_
  refine l_val (v_mkS (cs := [.int .i64 (5 : Nat), iN e5]) rfl rfl rfl (by simp [Value.oneCell'])) rfl ?_
  refine l_eff (e_box (l := [.int .i64 (5 : Nat), iN e5]) rfl rfl) rfl ?_
  rintro _ _ ⟨b19, rfl, rfl⟩
  refine l_val (v_makeIface (by kernel_rfl) rfl) rfl ?_
  refine l_eff0 (e_store rfl rfl rfl (by first | trivial | omega)) ?_
  rintro _ _ ⟨rfl, rfl⟩
  refine l_eff0 (e_store rfl rfl rfl (by first | trivial | omega)) ?_
  rintro _ _ ⟨rfl, rfl⟩
  refine l_nil ?_
  exact fun a w h1 h2 h3 => hq _ _ ⟨b19, rfl⟩ a w h1 h2 (by rw [HP.pts_nil] at h3; simp only [HP.emp_mul] at h3; exact h3)

section
variable {n : Nat} {E : Env} {Post : Value → HP → Prop}
theorem dec_panic {b5 b2 b3 : Nat} {e5 : Nat} {lv ev : Value} {R : HP} (h2 : lk E 2 = some (ptr b2 0)) (h3 : lk E 3 = some (ptr b3 0)) (hp : ∀ q, Post (.tuple #[.slice none 0 0, flt q]) (fltH q 5 (iN e5) * R)) :
    AtQ B (FPostD Tryd.prog B Tryd.f47 Post) (.panic pnS) n E ⟨[decD b5 b2 b3], none⟩ (HP.pts b5 0 [iN e5] * (HP.pts b2 0 [lv] * (HP.pts b3 0 [ev] * R))) :=
  a_panicDf (rs := [.cell 2 37, .cell 3 55]) (clo_pan b5 b2 b3 e5 lv ev R) rfl rfl (fun H' ⟨q, e⟩ => ⟨[.slice none 0 0, flt q], fltH q 5 (iN e5) * R, e ▸ rvs_cons (rv_cell h2 trivial) (rvs_cons (rv_cell h3 trivial) rvs_nil), hp q, e ▸ inferInstance⟩)
theorem dec_ret {b5 b2 b3 : Nat} {lv ev : Value} {H R : HP} (h2 : lk E 2 = some (ptr b2 0)) (h3 : lk E 3 = some (ptr b3 0)) [hr2 : Rd B H b2 0 lv True] [hr3 : Rd B H b3 0 ev True] [hE : Ent B H R] (hp : Post (.tuple #[lv, ev]) R) :
    AtQ B (FPostD Tryd.prog B Tryd.f47 Post) .ret n E ⟨[decD b5 b2 b3], none⟩ H :=
  a_retDf (rs := [.cell 2 37, .cell 3 55]) (clo_ret b5 b2 b3 H) rfl rfl (fun H' e => ⟨[lv, ev], R, e ▸ rvs_cons (rv_cell h2 trivial) (rvs_cons (rv_cell h3 trivial) rvs_nil), hp, e ▸ hE⟩)
end
theorem rdK_size {xs : List UInt8} {k a a' : Nat} {fin : Bool} {f : Frm} (h : rdK xs k fin a = some (f, a')) : f.ranges.length ≤ xs.length ∧ f.data.size ≤ xs.length := by
  unfold rdK at h
  split at h
  · simp only [Option.some.injEq, Prod.mk.injEq] at h; obtain ⟨rfl, -⟩ := h; exact ⟨Nat.zero_le _, Nat.zero_le _⟩
  split at h
  · simp only [Option.some.injEq, Prod.mk.injEq] at h; obtain ⟨rfl, -⟩ := h; exact ⟨Nat.zero_le _, Nat.zero_le _⟩
  split at h
  · split at h
    · rename_i e
      simp only [Option.some.injEq, Prod.mk.injEq] at h; obtain ⟨rfl, -⟩ := h
      exact ⟨(rdA_some e).2.2.2, Nat.zero_le _⟩
    · cases h
  split at h
  · split at h
    · split at h
      · split at h
        · simp only [Option.some.injEq, Prod.mk.injEq] at h; obtain ⟨rfl, -⟩ := h; exact ⟨Nat.zero_le _, Nat.zero_le _⟩
        · cases h
      · cases h
    · cases h
  split at h
  · split at h
    · split at h
      · split at h
        · rename_i e3
          simp only [Option.some.injEq, Prod.mk.injEq] at h; obtain ⟨rfl, -⟩ := h
          exact ⟨Nat.zero_le _, by have := (rdT_some e3).2.2; simpa using this⟩
        · cases h
      · cases h
    · cases h
  split at h
  · split at h
    · simp only [Option.some.injEq, Prod.mk.injEq] at h; obtain ⟨rfl, -⟩ := h; exact ⟨Nat.zero_le _, Nat.zero_le _⟩
    · cases h
  · cases h
theorem rdK_kind {xs : List UInt8} {k a a' : Nat} {fin : Bool} {f : Frm} (h : rdK xs k fin a = some (f, a')) : f.kind = k := by
  unfold rdK at h
  split at h
  · simp only [Option.some.injEq, Prod.mk.injEq] at h; obtain ⟨rfl, -⟩ := h; rename_i hk; rw [hk]; rfl
  split at h
  · simp only [Option.some.injEq, Prod.mk.injEq] at h; obtain ⟨rfl, -⟩ := h; rename_i hk; rw [hk]; rfl
  split at h
  · rename_i hk
    split at h
    · simp only [Option.some.injEq, Prod.mk.injEq] at h; obtain ⟨rfl, -⟩ := h; rw [hk]; rfl
    · cases h
  split at h
  · rename_i hk
    split at h
    · split at h
      · split at h
        · simp only [Option.some.injEq, Prod.mk.injEq] at h; obtain ⟨rfl, -⟩ := h; rw [hk]; rfl
        · cases h
      · cases h
    · cases h
  split at h
  · rename_i hk
    split at h
    · split at h
      · split at h
        · simp only [Option.some.injEq, Prod.mk.injEq] at h; obtain ⟨rfl, -⟩ := h; rw [hk]; rfl
        · cases h
      · cases h
    · cases h
  split at h
  · rename_i hk
    split at h
    · simp only [Option.some.injEq, Prod.mk.injEq] at h; obtain ⟨rfl, -⟩ := h; rw [hk]; rfl
    · cases h
  · cases h
theorem kindOf_zero {xs : List UInt8} {a : Nat} (h : kindOf (xs.getD a 0) = 0) : rdF xs a = none := by
  unfold rdF rdK
  rw [h]; rfl

structure DecSt where
  a : Nat
  av : Nat
  p : Option Addr
  b : Nat
  o : Nat
  c : Nat
  s : List Value
  rs : List RF
def decMore (l : List Frm) : Except Nat (List Frm) → Except Nat (List Frm)
  | .ok m => .ok (l ++ m)
  | .error e => .error e
theorem decMore_nil (x : Except Nat (List Frm)) : decMore [] x = x := by cases x <;> rfl
theorem decMore_step (l : List Frm) (f : Frm) (x : Except Nat (List Frm)) : decMore l (match x with | .ok m => .ok (f :: m) | .error e => .error e) = decMore (l ++ [f]) x := by
  cases x with
  | ok m => simp [decMore]
  | error e => rfl

theorem decode_spec (p : Option Addr) (b o c : Nat) (xs : List UInt8) (R : HP) (hs : Sl p b o xs.length c) (hr : RdA B R b o xs) (hx : xs.length < 10000000000) :
    Fn Tryd.prog B 47 [.slice p xs.length c] R (fun v H' => match decL xs with
      | .error e => ∃ q, v = .tuple #[.slice none 0 0, flt q] ∧ H' = fltH q 5 (iN e) * R
      | .ok fs => ∃ sv, v = .tuple #[sv, .nilIface] ∧ IsFs R fs sv H') := by
  refine fn_introD Tryd.func47 rfl rfl rfl ?_
  refine w_seq ?_
  refine w_region rfl ?_
  refine l_eff (e_alloc (l := [.slice none 0 0]) rfl) rfl ?_
  rintro _ _ ⟨b2, rfl, rfl⟩
  refine l_eff (e_alloc (l := [.nilIface]) rfl) rfl ?_
  rintro _ _ ⟨b3, rfl, rfl⟩
  refine l_nil ?_
  refine a_normal ?_
  refine w_seq ?_
  refine w_region rfl ?_
  refine l_val (v_move rfl) rfl ?_
  refine l_val (v_mkS (cs := [.slice p xs.length c, iN 0]) rfl rfl rfl (by simp [Value.oneCell'])) rfl ?_
  refine l_eff (e_box (l := [.slice p xs.length c, iN 0]) rfl rfl) rfl ?_
  rintro _ _ ⟨b13, rfl, rfl⟩
  refine l_val (v_assign rfl) rfl ?_
  refine l_nil ?_
  refine a_normal ?_
  refine w_seq ?_
  refine w_region rfl ?_
  refine l_eff (e_alloc (l := [iN 0]) rfl) rfl ?_
  rintro _ _ ⟨b5, rfl, rfl⟩
  refine l_eff0 (e_store (v := iN 0) rfl rfl rfl trivial) ?_
  rintro _ _ ⟨rfl, rfl⟩
  refine l_nil ?_
  refine a_normal ?_
  refine w_seq ?_
  refine w_region rfl ?_
  refine l_val (v_func rfl rfl) rfl ?_
  refine l_defer rfl ?_
  refine l_nil ?_
  refine a_normal ?_
  refine w_seq ?_
  refine w_seq ?_
  refine w_heap (H' := rdr b13 p c xs 0 * (HP.pts b5 0 [iN 0] * (HP.pts b2 0 [.slice none 0 0] * (HP.pts b3 0 [.nilIface] * (R))))) (by unfold rdr; ac_rfl) ?_
  refine w_region rfl ?_
  refine l_val (v_move rfl) rfl ?_
  refine l_val (v_lenS rfl) rfl ?_
  refine l_val (v_eql (j := 0) rfl rfl) rfl ?_
  refine l_nil ?_
  refine a_normal ?_
  refine w_condD rfl (fun h0 => ?_) (fun h0 => ?_)
  · skip
    refine w_region rfl ?_
    refine l_val (v_move rfl) rfl ?_
    refine l_effX (x_call rfl (fail_x b13 _)) rfl ?_ ?_
    rotate_left
    · rintro _ _ ⟨rfl, rfl⟩
      refine a_tpanic ?_
      refine a_ent (HP.pts b5 0 [iN 0] * (HP.pts b2 0 [.slice none 0 0] * (HP.pts b3 0 [.nilIface] * R))) ?_
      exact dec_panic rfl rfl (fun q => (by rw [decL, if_pos (List.length_eq_zero_iff.1 h0)]; exact ⟨_, rfl, rfl⟩))
    exact fun _ _ h => h.elim
  · skip
    refine w_skip ?_
    refine a_normal ?_
    refine w_seq ?_
    refine w_block ?_
    refine w_loop (α := DecSt) (fun z => [(0, .slice p xs.length c), (2, ptr b2 0), (3, ptr b3 0), (4, ptr b13 0), (5, ptr b5 0)]) (fun z => rdr b13 p c xs z.a * (HP.pts b5 0 [iN z.av] * (HP.pts b2 0 [.slice z.p z.rs.length z.c] * (HP.pts b3 0 [.nilIface] * (arr z.b z.o z.rs z.s * (OwnRs z.rs * R))))))
      (fun z => z.a ≤ xs.length ∧ z.rs.length ≤ z.a ∧ Sl z.p z.b z.o z.rs.length z.c ∧ z.rs.length * 7 + z.s.length = z.c * 7 ∧ (∀ r ∈ z.rs, r.ok ∧ r.own) ∧ decL xs = decMore (z.rs.map (·.f)) (decFrom xs z.a)) (fun z => xs.length - z.a)
      ⟨0, 0, none, 0, 0, 0, [], []⟩ ⟨Nat.zero_le _, Nat.zero_le _, ⟨.inl rfl, Nat.le_refl _⟩, rfl, (fun r h => by simp at h), by rw [decL, if_neg (fun h => h0 (by rw [h]; rfl))]; exact (decMore_nil _).symm⟩ (.cons rfl (.cons rfl (.cons rfl (.cons rfl (.cons rfl .nil))))) (by show _ = rdr b13 p c xs 0 * (HP.pts b5 0 [iN 0] * (HP.pts b2 0 [.slice none 0 0] * (HP.pts b3 0 [.nilIface] * (arr 0 0 ([] : List RF) [] * (OwnRs [] * R))))); rw [arr_nil, OwnRs_nil, HP.emp_mul, HP.emp_mul]) ?_
    rintro z ⟨hza, hzl, hzs, hzc, hzo, hdec⟩
    refine w_seq ?_
    refine w_seq ?_
    refine w_region rfl ?_
    refine l_val (v_move rfl) rfl ?_
    refine l_val (v_nilCheck rfl) rfl ?_
    refine l_val (v_fieldAddr rfl) rfl ?_
    refine l_val (v_load rfl trivial) rfl ?_
    refine l_val (v_move rfl) rfl ?_
    refine l_val (v_lenS rfl) rfl ?_
    refine l_val (v_lss rfl rfl) rfl ?_
    refine l_nil ?_
    refine a_normal ?_
    refine w_condD rfl (fun hlt => ?_) (fun hlt => ?_)
    · skip
      refine w_skip ?_
      refine a_normal ?_
      refine w_block ?_
      refine w_seq ?_
      refine w_region rfl ?_
      refine l_val (v_move rfl) rfl ?_
      refine l_val (v_nilCheck rfl) rfl ?_
      refine l_val (v_fieldAddr rfl) rfl ?_
      refine l_val (v_load rfl trivial) rfl ?_
      refine l_eff0 (e_store rfl rfl rfl (by first | trivial | omega)) ?_
      rintro _ _ ⟨rfl, rfl⟩
      refine l_nil ?_
      refine a_normal ?_
      refine w_seq ?_
      refine w_region rfl ?_
      refine l_val (v_move rfl) rfl ?_
      refine l_effX (x_call rfl (take_x 1 (by omega) b13 p b o c xs z.a _ hs inferInstance (by omega) hza)) rfl ?_ ?_
      rotate_left
      · rintro _ _ ⟨h1, rfl, rfl⟩
        refine a_tpanic ?_
        refine a_bpanic ?_
        refine a_tpanic ?_
        refine a_bpanic ?_
        refine a_tpanic ?_
        exact absurd h1 (by omega)
      rintro _ _ ⟨h1, rfl, rfl⟩
      refine l_val (v_indexAddrRe (i := 0) (b := b) (o := o + z.a * 1) (q := o + z.a * 1) rfl rfl (sp1 hs (by omega)) (by omega) (by omega)) rfl ?_
      refine l_val (v_loadB (i := z.a) (xs := xs) rfl inferInstance (by omega)) rfl ?_
      refine l_val (v_assign rfl) rfl ?_
      refine l_nil ?_
      refine a_normal ?_
      refine w_seq ?_
      refine w_region rfl ?_
      refine l_val (v_move rfl) rfl ?_
      refine l_eff (e_call rfl (kind_spec (xs.getD z.a 0) _)) rfl ?_
      rintro _ _ ⟨rfl, rfl⟩
      refine l_val (v_move rfl) rfl ?_
      refine l_val (v_extract rfl rfl) rfl ?_
      refine l_val (v_extract rfl rfl) rfl ?_
      refine l_val (v_assign rfl) rfl ?_
      refine l_val (v_assign rfl) rfl ?_
      refine l_nil ?_
      refine a_normal ?_
      refine w_seq ?_
      refine w_seq ?_
      refine w_region rfl ?_
      refine l_val (v_move rfl) rfl ?_
      refine l_val (v_notD rfl) rfl ?_
      refine l_nil ?_
      refine a_normal ?_
      refine w_condD rfl (fun hk0 => ?_) (fun hk0 => ?_)
      · skip
        refine w_region rfl ?_
        refine l_val (v_move rfl) rfl ?_
        refine l_effX (x_call rfl (fail_x b13 _)) rfl ?_ ?_
        rotate_left
        · rintro _ _ ⟨rfl, rfl⟩
          refine a_tpanic ?_
          refine a_bpanic ?_
          refine a_tpanic ?_
          refine a_bpanic ?_
          refine a_tpanic ?_
          refine a_ent (HP.pts b5 0 [iN z.a] * (HP.pts b2 0 [.slice z.p z.rs.length z.c] * (HP.pts b3 0 [.nilIface] * R))) ?_
          exact dec_panic rfl rfl (fun q => (by have hd := hdec; rw [decFrom_bad hlt (kindOf_zero (Classical.not_not.1 hk0))] at hd; rw [hd]; exact ⟨_, rfl, rfl⟩))
        exact fun _ _ h => h.elim
      · skip
        have hk1 : kindOf (xs.getD z.a 0) ≠ 0 := Classical.not_not.1 hk0
        refine w_skip ?_
        refine a_normal ?_
        refine w_seq ?_
        refine w_region rfl ?_
        refine l_val (v_move rfl) rfl ?_
        refine l_val (v_move rfl) rfl ?_
        refine l_val (v_eql (i := (xs.getD z.a 0).toNat) (j := 9) rfl rfl) rfl ?_
        refine l_val (v_mkS (cs := encRF (r0 (kindOf (xs.getD z.a 0)) (decide ((xs.getD z.a 0).toNat = 9)))) rfl rfl rfl (by simp [Value.oneCell'])) rfl ?_
        refine l_eff (e_alloc (l := [.int .i64 0, .int .i64 0, .int .u64 0, .int .u64 0, .bool false, .string ⟨#[]⟩, .slice none 0 0]) rfl) rfl ?_
        rintro _ _ ⟨b9, rfl, rfl⟩
        refine l_eff0 (e_storeA (cs := encRF (r0 (kindOf (xs.getD z.a 0)) (decide ((xs.getD z.a 0).toNat = 9)))) rfl rfl (by constructor <;> rfl) (by simp [Value.oneCell'])) ?_
        rintro _ _ ⟨rfl, rfl⟩
        refine l_nil ?_
        refine a_normal ?_
        refine w_seq ?_
        refine w_region rfl ?_
        refine l_val (v_move rfl) rfl ?_
        refine l_eff (e_call rfl (of_ok (kindOf (xs.getD z.a 0)) (kindOf_ok _ hk1) _)) rfl ?_
        rintro _ _ ⟨bc, f1, us1, f2, us2, f3, us3, C, hF0, rfl, rfl⟩
        refine l_val (v_assign rfl) rfl ?_
        refine l_nil ?_
        refine a_normal ?_
        refine w_seq ?_
        refine w_region rfl ?_
        refine l_val (v_move rfl) rfl ?_
        refine l_val (v_nilCheck rfl) rfl ?_
        refine l_val (v_fieldAddr rfl) rfl ?_
        refine l_val (v_load rfl trivial) rfl ?_
        refine l_val (v_move rfl) rfl ?_
        refine l_heap (H' := rdr b13 p c xs (z.a + 1) * (HP.pts b9 0 (encRF (r0 (kindOf (xs.getD z.a 0)) (decide ((xs.getD z.a 0).toNat = 9)))) * (C * (codecH bc f1 f2 f3 us1 us2 us3 * (HP.pts b5 0 [iN z.a] * (HP.pts b2 0 [.slice z.p z.rs.length z.c] * (HP.pts b3 0 [.nilIface] * (arr z.b z.o z.rs z.s * (OwnRs z.rs * R))))))))) (by ac_rfl) ?_
        have hcr := codec_read (B := B) hF0 b13 b9 (decide ((xs.getD z.a 0).toNat = 9)) p b o c xs (z.a + 1) (codecH bc f1 f2 f3 us1 us2 us3 * (HP.pts b5 0 [iN z.a] * (HP.pts b2 0 [.slice z.p z.rs.length z.c] * (HP.pts b3 0 [.nilIface] * (arr z.b z.o z.rs z.s * (OwnRs z.rs * R)))))) hs inferInstance (by omega) (by omega)
        have hc2 := hcr.1
        refine l_effX (x_callV rfl rfl hcr.2) rfl ?_ ?_
        rotate_left
        · rintro _ _ ⟨hrk, rfl, rfl⟩
          refine a_tpanic ?_
          refine a_bpanic ?_
          refine a_tpanic ?_
          refine a_bpanic ?_
          refine a_tpanic ?_
          have hnine : decide ((xs.getD z.a 0).toNat = 9) = decide (xs.getD z.a 0 = 9) := decide_eq_decide.2 ⟨fun h => UInt8.toNat_inj.1 h, fun h => by rw [h]; rfl⟩
          rw [hnine] at hrk
          refine a_ent (HP.pts b5 0 [iN z.a] * (HP.pts b2 0 [.slice z.p z.rs.length z.c] * (HP.pts b3 0 [.nilIface] * R))) ?_
          exact dec_panic rfl rfl (fun q => (by have hd := hdec; rw [decFrom_bad hlt (by unfold rdF; rw [hrk])] at hd; rw [hd]; exact ⟨_, rfl, rfl⟩))
        rintro _ _ ⟨r, a55, hrk, hrok, hrown, rfl⟩
        have hkind := rdK_kind hrk
        have hrsz := rdK_size hrk
        have hmod : Mod r := ⟨hrok, by omega, by omega⟩
        have hnine : decide ((xs.getD z.a 0).toNat = 9) = decide (xs.getD z.a 0 = 9) := decide_eq_decide.2 ⟨fun h => UInt8.toNat_inj.1 h, fun h => by rw [h]; rfl⟩
        rw [hnine] at hrk
        refine l_nil ?_
        refine a_normal ?_
        refine w_seq ?_
        refine w_seq ?_
        refine w_region rfl ?_
        refine l_val (v_move rfl) rfl ?_
        refine l_heap (H' := HP.pts b9 0 (encRF r) * (C * (codecH bc f1 f2 f3 us1 us2 us3 * (OwnR r * (rdr b13 p c xs a55 * (HP.pts b5 0 [iN z.a] * (HP.pts b2 0 [.slice z.p z.rs.length z.c] * (HP.pts b3 0 [.nilIface] * (arr z.b z.o z.rs z.s * (OwnRs z.rs * R)))))))))) (by ac_rfl) ?_
        have hF1 : CodecF r.f.kind f1 us1 f2 us2 f3 us3 C := hkind ▸ hF0
        have hro : RdA B (OwnR r * (rdr b13 p c xs a55 * (HP.pts b5 0 [iN z.a] * (HP.pts b2 0 [.slice z.p z.rs.length z.c] * (HP.pts b3 0 [.nilIface] * (arr z.b z.o z.rs z.s * (OwnRs z.rs * R))))))) r.b r.o r.f.ranges := (inferInstance : RdA B (arr r.b r.o r.f.ranges r.s * (rdr b13 p c xs a55 * (HP.pts b5 0 [iN z.a] * (HP.pts b2 0 [.slice z.p z.rs.length z.c] * (HP.pts b3 0 [.nilIface] * (arr z.b z.o z.rs z.s * (OwnRs z.rs * R))))))) r.b r.o r.f.ranges)
        refine l_eff (e_call rfl (sound_spec r b9 bc f1 f2 f3 us1 us2 us3 C _ hF1 hF1.toW rfl hmod hro)) rfl ?_
        rintro _ _ ⟨rfl, rfl⟩
        refine l_val (v_notD rfl) rfl ?_
        refine l_nil ?_
        refine a_normal ?_
        refine w_condD rfl (fun hok0 => ?_) (fun hok0 => ?_)
        · skip
          refine w_region rfl ?_
          refine l_val (v_move rfl) rfl ?_
          refine l_effX (x_call rfl (fail_x b13 _)) rfl ?_ ?_
          rotate_left
          · rintro _ _ ⟨rfl, rfl⟩
            refine a_tpanic ?_
            refine a_bpanic ?_
            refine a_tpanic ?_
            refine a_bpanic ?_
            refine a_tpanic ?_
            refine a_ent (HP.pts b5 0 [iN z.a] * (HP.pts b2 0 [.slice z.p z.rs.length z.c] * (HP.pts b3 0 [.nilIface] * R))) ?_
            exact dec_panic rfl rfl (fun q => (by have hd := hdec; rw [decFrom_bad hlt (by unfold rdF; rw [hrk]; exact if_neg hok0)] at hd; rw [hd]; exact ⟨_, rfl, rfl⟩))
          exact fun _ _ h => h.elim
        · skip
          have hokf : okF r.f := Classical.not_not.1 hok0
          have hF : rdF xs z.a = some (r.f, a55) := by unfold rdF; rw [hrk]; exact if_pos hokf
          have hf3 := rdF_some hF hlt
          refine w_skip ?_
          refine a_normal ?_
          refine w_region rfl ?_
          refine l_val (v_load rfl trivial) rfl ?_
          refine l_val (v_loadA rfl rfl) rfl ?_
          refine l_eff (e_buildSlice (cs := encRF r) rfl (by first | kernel_rfl | simp [Instr.fill, Value.cells]) rfl rfl) rfl ?_
          rintro _ _ ⟨b63, rfl, rfl⟩
          refine l_heap (H' := arr z.b z.o z.rs z.s * (HP.pts b63 0 (flat [r]) * (HP.pts b9 0 (encRF r) * (C * (codecH bc f1 f2 f3 us1 us2 us3 * (OwnR r * (rdr b13 p c xs a55 * (HP.pts b5 0 [iN z.a] * (HP.pts b2 0 [.slice z.p z.rs.length z.c] * (HP.pts b3 0 [.nilIface] * (OwnRs z.rs * R))))))))))) (by show HP.pts b63 0 (flat [r]) * _ = _; ac_rfl) ?_
          refine l_eff (e_append (ys := [r]) (bb := b63) (oo := 0) (cc := 1) rfl hzs hzc rfl ⟨.inr rfl, Nat.le_refl _⟩ inferInstance rfl (by simp only [List.length_singleton]; omega) (by omega)) rfl ?_
          rintro _ _ ⟨p64, b64, o64, c64, s64, rfl, hs64, hc64, rfl⟩
          refine l_eff0 (e_store rfl rfl rfl (by first | trivial | omega)) ?_
          rintro _ _ ⟨rfl, rfl⟩
          refine l_heap (H' := rdr b13 p c xs a55 * (HP.pts b5 0 [iN z.a] * (HP.pts b2 0 [.slice p64 (z.rs ++ [r]).length c64] * (HP.pts b3 0 [.nilIface] * (arr b64 o64 (z.rs ++ [r]) s64 * (OwnRs (z.rs ++ [r]) * R))))) * (HP.pts b63 0 (flat [r]) * (HP.pts b9 0 (encRF r) * (C * codecH bc f1 f2 f3 us1 us2 us3)))) (by rw [OwnRs_append, OwnRs_cons, OwnRs_nil, HP.mul_emp]; ac_rfl) ?_
          refine l_nil ?_
          refine a_bnormal ?_
          refine a_ent (rdr b13 p c xs a55 * (HP.pts b5 0 [iN z.a] * (HP.pts b2 0 [.slice p64 (z.rs ++ [r]).length c64] * (HP.pts b3 0 [.nilIface] * (arr b64 o64 (z.rs ++ [r]) s64 * (OwnRs (z.rs ++ [r]) * R)))))) ?_
          exact a_loop (⟨a55, z.a, p64, b64, o64, c64, s64, z.rs ++ [r]⟩ : DecSt) ⟨hf3.2.1, by show (z.rs ++ [r]).length ≤ a55; rw [List.length_append, List.length_singleton]; omega, hs64, hc64, (by
            intro r' hr'
            rcases List.mem_append.1 hr' with h | h
            · exact hzo r' h
            · rw [List.mem_singleton.1 h]; exact ⟨hrok, hrown⟩), by rw [hdec, decFrom_step hlt hF]; show _ = decMore ((z.rs ++ [r]).map (·.f)) _; rw [List.map_append]; exact decMore_step _ _ _⟩ (by show xs.length - a55 < xs.length - z.a; omega) (.cons rfl (.cons rfl (.cons rfl (.cons rfl (.cons rfl .nil))))) rfl
    · skip
      refine w_exit ?_
      refine a_texit ?_
      refine a_texit ?_
      refine a_bexit ?_
      refine a_normal ?_
      refine w_seq ?_
      refine w_region rfl ?_
      refine l_val (v_load rfl trivial) rfl ?_
      refine l_eff0 (e_store rfl rfl rfl (by first | trivial | omega)) ?_
      rintro _ _ ⟨rfl, rfl⟩
      refine l_eff0 (e_store rfl rfl rfl (by first | trivial | omega)) ?_
      rintro _ _ ⟨rfl, rfl⟩
      refine l_nil ?_
      refine a_normal ?_
      refine w_ret ?_
      exact dec_ret (R := arr z.b z.o z.rs z.s * (OwnRs z.rs * R)) rfl rfl (by
        have hd := hdec
        rw [decFrom_end hlt] at hd
        rw [hd]
        show ∃ sv, _ ∧ IsFs R (z.rs.map (·.f) ++ []) sv _
        rw [List.append_nil]
        exact ⟨_, rfl, z.p, z.b, z.o, z.c, z.s, z.rs, by rw [List.length_map], by rw [List.length_map]; exact hzs, by rw [List.length_map]; exact hzc, rfl, hzo, rfl⟩)
end Go.Proofs.YtgfdlpcdjklcoaaDoor
