/- Contracts of package wire: the codecs; frames written; no condition. -/
import Derived.Test.YtgfdlpcdjklcoaaDoorWire1
namespace Go.Proofs.YtgfdlpcdjklcoaaDoor
open Go Go.RowKit
set_option linter.unusedVariables false
set_option maxRecDepth 20000
variable {B : World}
abbrev fnV (f : FuncId) (us : List Value) : Value := .func (.func f) #[] us.toArray
/-- a frame in memory, of moderate size -/
structure Mod (r : RF) : Prop where
  ok : r.ok
  len : r.f.ranges.length < 10000000000
  size : r.f.data.size < 100000000000
/-- what stands behind a codec's functions -/
structure CodecW (B : World) (k : Int) (f1 : FuncId) (us1 : List Value) (f3 : FuncId) (us3 : List Value) (C : HP) : Prop where
  call1 : CallOk Tryd.prog f1
  call3 : CallOk Tryd.prog f3
  write : ∀ (r : RF) (fb : Nat) (p : Option Addr) (b o c : Nat) (xs : List UInt8) (s : List Value) (R : HP), Mod r → r.f.kind = k → okF r.f → RdA B R r.b r.o r.f.ranges → Sl p b o xs.length c → xs.length * 1 + s.length = c * 1 → xs.length < 100000000000 →
    Fn Tryd.prog B f1 ([.slice p xs.length c, ptr fb 0] ++ us1) (arr b o xs s * (HP.pts fb 0 (encRF r) * (C * R))) (fun v H' => IsSl (HP.pts fb 0 (encRF r) * (C * R)) (xs ++ encF r.f) v H')
  sound : ∀ (r : RF) (fb : Nat) (R : HP), Mod r → r.f.kind = k → r.f.offset ≤ 4611686018427387903 → RdA B R r.b r.o r.f.ranges →
    Fn Tryd.prog B f3 ([ptr fb 0] ++ us3) (HP.pts fb 0 (encRF r) * (C * R)) (fun v H' => v = .bool (decide (okK r.f)) ∧ H' = HP.pts fb 0 (encRF r) * (C * R))
theorem okK_other {f : Frm} (h3 : f.kind ≠ 3) (h5 : f.kind ≠ 5) : okK f := ⟨fun h => absurd h h3, fun h => absurd h h5⟩
theorem always_sound (k : Int) (h3 : k ≠ 3) (h5 : k ≠ 5) (C : HP) (r : RF) (fb : Nat) (R : HP) (hk : r.f.kind = k) :
    Fn Tryd.prog B 81 ([ptr fb 0] ++ []) (HP.pts fb 0 (encRF r) * (C * R)) (fun v H' => v = .bool (decide (okK r.f)) ∧ H' = HP.pts fb 0 (encRF r) * (C * R)) := by
  refine (always_spec fb _).mono ?_
  rintro v H' ⟨rfl, rfl⟩
  exact ⟨congrArg Value.bool (decide_eq_true (okK_other (hk ▸ h3) (hk ▸ h5))).symm, rfl⟩
theorem codec_bare (k : Int) (t : UInt8) (bt : Nat) (hk : (k = 1 ∧ t = 0) ∨ (k = 2 ∧ t = 1)) : CodecW B k 92 [ptr bt 0] 81 [] (HP.pts bt 0 [u8 t]) := by
  refine ⟨inferInstance, inferInstance, ?_, ?_⟩
  · intro r fb p b o c xs s R hm hrk hok hr hs hc hx
    have e : encF r.f = [t] := by
      rcases hk with ⟨rfl, rfl⟩ | ⟨rfl, rfl⟩ <;> simp [encF, hrk]
    rw [e]
    have h := bare1_spec t bt r fb p b o c xs s R hs hc hx (B := B)
    exact h
  · intro r fb R hm hrk _ _
    exact always_sound k (by rcases hk with ⟨rfl, _⟩ | ⟨rfl, _⟩ <;> decide) (by rcases hk with ⟨rfl, _⟩ | ⟨rfl, _⟩ <;> decide) _ r fb R hrk
theorem codec_close (bt bq : Nat) : CodecW B 6 94 [ptr bt 0, ptr bq 0] 81 [] (HP.pts bt 0 [u8 28] * HP.pts bq 0 [fnV 88 []]) := by
  refine ⟨inferInstance, inferInstance, ?_, ?_⟩
  · intro r fb p b o c xs s R hm hrk hok hr hs hc hx
    have e : encF r.f = [28] ++ vint r.f.code := by simp [encF, hrk]
    rw [e, ← List.append_assoc, HP.assoc]
    exact number1_spec bt bq r fb p b o c xs s R hs hc hx hok.2.1
  · intro r fb R hm hrk _ _
    exact always_sound 6 (by decide) (by decide) _ r fb R hrk
theorem codec_ack : CodecW B 3 73 [] 75 [] HP.emp := by
  refine ⟨inferInstance, inferInstance, ?_, ?_⟩
  · intro r fb p b o c xs s R hm hrk hok hr hs hc hx
    have e : xs ++ encF r.f = xs ++ [2] ++ vint (rg r.f.ranges 0).hi ++ vint (r.f.ranges.length - 1) ++ vint ((rg r.f.ranges 0).hi - (rg r.f.ranges 0).lo) ++ encRs r.f.ranges (r.f.ranges.length - 1) := by
      simp [encF, hrk, encA]
    rw [e, HP.emp_mul]
    exact writeAck_spec r fb p b o c xs s R hs hc hx hm.ok hr (hok.2.2.2.2.1.1 hrk) hm.len
  · intro r fb R hm hrk _ hr
    rw [HP.emp_mul]
    refine (soundAck_spec r fb R hm.ok hr hm.len).mono ?_
    rintro v H' ⟨rfl, rfl⟩
    exact ⟨congrArg Value.bool (decide_eq_decide.2 ⟨fun h => ⟨fun _ => h, fun h5 => by rw [hrk] at h5; cases h5⟩, fun h => h.1 hrk⟩), rfl⟩
theorem codec_reset : CodecW B 4 76 [] 81 [] HP.emp := by
  refine ⟨inferInstance, inferInstance, ?_, ?_⟩
  · intro r fb p b o c xs s R hm hrk hok hr hs hc hx
    obtain ⟨h1, h2, h3, h4, h5, h6⟩ := hok
    have e : xs ++ encF r.f = xs ++ [4] ++ vint r.f.stream.toNat ++ vint r.f.code ++ vint r.f.offset := by simp [encF, hrk]
    rw [e, HP.emp_mul]
    exact of1_spec r fb p b o c xs s R hs hc hx r.f.stream.toNat (by omega) (by omega) h2 h1
  · intro r fb R hm hrk _ _
    rw [HP.emp_mul]
    have := always_sound (B := B) 4 (by decide) (by decide) HP.emp r fb R hrk
    rwa [HP.emp_mul] at this
theorem codec_data : CodecW B 5 82 [] 86 [] HP.emp := by
  refine ⟨inferInstance, inferInstance, ?_, ?_⟩
  · intro r fb p b o c xs s R hm hrk hok hr hs hc hx
    obtain ⟨h1, h2, h3, h4, h5, h6⟩ := hok
    have e : xs ++ encF r.f = xs ++ [bif r.f.fin then 9 else 8] ++ vint r.f.stream.toNat ++ vint r.f.offset ++ vint r.f.data.size ++ r.f.data.data.toList := by simp [encF, hrk]
    rw [e, HP.emp_mul]
    exact of3_spec r fb p b o c xs s R hs hc hx r.f.stream.toNat (by omega) (by omega) h1 (by have := hm.size; omega)
  · intro r fb R hm hrk hof _
    rw [HP.emp_mul]
    refine (of5_spec r fb R hof (by have := hm.size; omega)).mono ?_
    rintro v H' ⟨rfl, rfl⟩
    exact ⟨congrArg Value.bool (decide_eq_decide.2 ⟨fun h => ⟨fun h3 => (by rw [hrk] at h3; cases h3), fun _ => h⟩, fun h => h.2 hrk⟩), rfl⟩

theorem bare_spec (t : UInt8) (H : HP) : Fn Tryd.prog B 72 [u8 t] H (fun v H' => ∃ bt, v = .agg [fnV 92 [ptr bt 0], fnV 93 [], fnV 81 []].toArray ∧ H' = HP.pts bt 0 [u8 t] * H) := by
  refine fn_intro Tryd.func72 rfl rfl rfl ?_
  refine w_seq ?_
  refine w_region rfl ?_
  refine l_eff (e_box (l := [u8 t]) rfl rfl) rfl ?_
  rintro _ _ ⟨b1, rfl, rfl⟩
  refine l_eff (e_alloc (l := [_, _, _]) rfl) rfl ?_
  rintro _ _ ⟨b2, rfl, rfl⟩
  refine l_nil ?_
  refine a_normal ?_
  refine w_seq ?_
  refine w_region rfl ?_
  refine l_val (v_func rfl rfl) rfl ?_
  refine l_val (v_mkS rfl rfl rfl (by simp [Value.oneCell'])) rfl ?_
  refine l_eff0 (e_storeA rfl rfl (by constructor <;> rfl) (by simp [Value.oneCell'])) ?_
  rintro _ _ ⟨rfl, rfl⟩
  refine l_nil ?_
  refine a_normal ?_
  refine w_ret ?_
  exact a_retG (HP.pts b1 0 [u8 t] * H) rfl (rvs_cons (rv_cellA rfl rfl) rvs_nil) ⟨b1, rfl, rfl⟩

theorem number_spec (H : HP) : Fn Tryd.prog B 87 [u8 28, fnV 88 []] H (fun v H' => ∃ bt bq, v = .agg [fnV 94 [ptr bt 0, ptr bq 0], fnV 95 [ptr bq 0], fnV 81 []].toArray ∧ H' = HP.pts bt 0 [u8 28] * (HP.pts bq 0 [fnV 88 []] * H)) := by
  refine fn_intro Tryd.func87 rfl rfl rfl ?_
  refine w_seq ?_
  refine w_region rfl ?_
  refine l_eff (e_box (l := [u8 28]) rfl rfl) rfl ?_
  rintro _ _ ⟨b2, rfl, rfl⟩
  refine l_eff (e_box (l := [fnV 88 []]) rfl rfl) rfl ?_
  rintro _ _ ⟨b3, rfl, rfl⟩
  refine l_eff (e_alloc (l := [_, _, _]) rfl) rfl ?_
  rintro _ _ ⟨b4, rfl, rfl⟩
  refine l_nil ?_
  refine a_normal ?_
  refine w_seq ?_
  refine w_region rfl ?_
  refine l_val (v_func rfl rfl) rfl ?_
  refine l_val (v_func rfl rfl) rfl ?_
  refine l_val (v_mkS rfl rfl rfl (by simp [Value.oneCell'])) rfl ?_
  refine l_eff0 (e_storeA rfl rfl (by constructor <;> rfl) (by simp [Value.oneCell'])) ?_
  rintro _ _ ⟨rfl, rfl⟩
  refine l_nil ?_
  refine a_normal ?_
  refine w_ret ?_
  exact a_retG (HP.pts b3 0 [fnV 88 []] * (HP.pts b2 0 [u8 28] * H)) rfl (rvs_cons (rv_cellA rfl rfl) rvs_nil) ⟨b2, b3, rfl, HP.left_comm _ _ _⟩

/-- what a codec of a kind is: the functions, by kind -/
inductive CodecF : Int → FuncId → List Value → FuncId → List Value → FuncId → List Value → HP → Prop
  | pad (bt : Nat) : CodecF 1 92 [ptr bt 0] 93 [] 81 [] (HP.pts bt 0 [u8 0])
  | ping (bt : Nat) : CodecF 2 92 [ptr bt 0] 93 [] 81 [] (HP.pts bt 0 [u8 1])
  | ack : CodecF 3 73 [] 74 [] 75 [] HP.emp
  | reset : CodecF 4 76 [] 78 [] 81 [] HP.emp
  | data : CodecF 5 82 [] 84 [] 86 [] HP.emp
  | bye (bt bq : Nat) : CodecF 6 94 [ptr bt 0, ptr bq 0] 95 [ptr bq 0] 81 [] (HP.pts bt 0 [u8 28] * HP.pts bq 0 [fnV 88 []])
theorem CodecF.toW {k : Int} {f1 f2 f3 : FuncId} {us1 us2 us3 : List Value} {C : HP} (h : CodecF k f1 us1 f2 us2 f3 us3 C) : CodecW B k f1 us1 f3 us3 C := by
  cases h
  · exact codec_bare 1 0 _ (.inl ⟨rfl, rfl⟩)
  · exact codec_bare 2 1 _ (.inr ⟨rfl, rfl⟩)
  · exact codec_ack
  · exact codec_reset
  · exact codec_data
  · exact codec_close _ _
theorem CodecF.kind {k : Int} {f1 f2 f3 : FuncId} {us1 us2 us3 : List Value} {C : HP} (h : CodecF k f1 us1 f2 us2 f3 us3 C) : kindOk k := by cases h <;> (unfold kindOk; decide)
/-- a codec in memory -/
abbrev codecH (bc : Nat) (f1 f2 f3 : FuncId) (us1 us2 us3 : List Value) : HP := HP.pts bc 0 [fnV f1 us1, fnV f2 us2, fnV f3 us3]
theorem a_retOf {P : Program} {n : Nat} {E : Env} {H : HP} {r : Option Nat} {fn : Func} {k : Int} {bc : Nat} {f1 f2 f3 : FuncId} {us1 us2 us3 : List Value} {C H0 : HP} (hr : fn.results = ([2].map ResultVar.tmp).toArray) (hv : evs E ([2].map Operand.tmp) = some [ptr bc 0])
    (h : CodecF k f1 us1 f2 us2 f3 us3 C) (e : H = codecH bc f1 f2 f3 us1 us2 us3 * (C * H0)) : AtQ B (FPost P B fn (fun v H' => (¬ kindOk k ∧ v = .pointer none ∧ H' = H0) ∨ (∃ bc f1 us1 f2 us2 f3 us3 C, CodecF k f1 us1 f2 us2 f3 us3 C ∧ v = ptr bc 0 ∧ H' = codecH bc f1 f2 f3 us1 us2 us3 * (C * H0)))) .ret n E ⟨[], r⟩ H :=
  a_ret hr hv (.inr ⟨bc, f1, us1, f2, us2, f3, us3, C, h, rfl, e⟩)

theorem of_spec (k : Int) (H : HP) : Fn Tryd.prog B 63 [.int .i64 k] H (fun v H' => (¬ kindOk k ∧ v = .pointer none ∧ H' = H) ∨ (∃ bc f1 us1 f2 us2 f3 us3 C, CodecF k f1 us1 f2 us2 f3 us3 C ∧ v = ptr bc 0 ∧ H' = codecH bc f1 f2 f3 us1 us2 us3 * (C * H))) := by
  refine fn_intro Tryd.func63 rfl rfl rfl ?_
  refine w_seq ?_
  refine w_region rfl ?_
  refine l_val (v_assign rfl) rfl ?_
  refine l_nil ?_
  refine a_normal ?_
  refine w_seq ?_
  refine w_region rfl ?_
  refine l_eff (e_alloc (l := [.nilFunc, .nilFunc, .nilFunc]) rfl) rfl ?_
  rintro _ _ ⟨b3, rfl, rfl⟩
  refine l_nil ?_
  refine a_normal ?_
  refine w_seq ?_
  refine w_seq ?_
  refine w_region rfl ?_
  refine l_val (v_move rfl) rfl ?_
  refine l_nil ?_
  refine a_normal ?_
  refine w_block ?_
  refine w_seq ?_
  refine w_region rfl ?_
  refine l_val (v_eqlZ (i := k) (j := 1) rfl rfl) rfl ?_
  refine l_val (v_assign rfl) rfl ?_
  refine l_nil ?_
  refine a_normal ?_
  refine w_condD rfl (fun hc => ?_) (fun hnt5 => ?_)
  · skip
    refine w_region rfl ?_
    refine l_eff (e_call rfl (bare_spec 0 _)) rfl ?_
    rintro _ _ ⟨bt, rfl, rfl⟩
    refine l_eff0 (e_storeA rfl rfl (by constructor <;> rfl) (by simp [Value.oneCell'])) ?_
    rintro _ _ ⟨rfl, rfl⟩
    refine l_nil ?_
    refine a_bnormal ?_
    refine a_normal ?_
    refine w_seq ?_
    refine w_region rfl ?_
    refine l_val (v_assign rfl) rfl ?_
    refine l_nil ?_
    refine a_normal ?_
    refine w_ret ?_
    first
    | exact a_retD (ts := [2]) H rfl rfl (.inl ⟨by unfold kindOk; omega, rfl, rfl⟩)
    | (subst hc; first | exact a_retOf (bc := b3) rfl rfl (.pad bt) (by unfold codecH; ac_rfl) | exact a_retOf (bc := b3) rfl rfl (.ping bt) (by unfold codecH; ac_rfl) | exact a_retOf rfl rfl .ack (by rw [HP.emp_mul]) | exact a_retOf rfl rfl .reset (by rw [HP.emp_mul]) | exact a_retOf rfl rfl .data (by rw [HP.emp_mul]) | exact a_retOf (bc := b3) rfl rfl (.bye bt bq) (by unfold codecH; ac_rfl))
  · skip
    refine w_seq ?_
    refine w_region rfl ?_
    refine l_val (v_eqlZ (i := k) (j := 2) rfl rfl) rfl ?_
    refine l_val (v_assign rfl) rfl ?_
    refine l_nil ?_
    refine a_normal ?_
    refine w_condD rfl (fun hc => ?_) (fun hnt8 => ?_)
    · skip
      refine w_region rfl ?_
      refine l_eff (e_call rfl (bare_spec 1 _)) rfl ?_
      rintro _ _ ⟨bt, rfl, rfl⟩
      refine l_eff0 (e_storeA rfl rfl (by constructor <;> rfl) (by simp [Value.oneCell'])) ?_
      rintro _ _ ⟨rfl, rfl⟩
      refine l_nil ?_
      refine a_bnormal ?_
      refine a_normal ?_
      refine w_seq ?_
      refine w_region rfl ?_
      refine l_val (v_assign rfl) rfl ?_
      refine l_nil ?_
      refine a_normal ?_
      refine w_ret ?_
      first
      | exact a_retD (ts := [2]) H rfl rfl (.inl ⟨by unfold kindOk; omega, rfl, rfl⟩)
      | (subst hc; first | exact a_retOf (bc := b3) rfl rfl (.pad bt) (by unfold codecH; ac_rfl) | exact a_retOf (bc := b3) rfl rfl (.ping bt) (by unfold codecH; ac_rfl) | exact a_retOf rfl rfl .ack (by rw [HP.emp_mul]) | exact a_retOf rfl rfl .reset (by rw [HP.emp_mul]) | exact a_retOf rfl rfl .data (by rw [HP.emp_mul]) | exact a_retOf (bc := b3) rfl rfl (.bye bt bq) (by unfold codecH; ac_rfl))
    · skip
      refine w_seq ?_
      refine w_region rfl ?_
      refine l_val (v_eqlZ (i := k) (j := 3) rfl rfl) rfl ?_
      refine l_val (v_assign rfl) rfl ?_
      refine l_nil ?_
      refine a_normal ?_
      refine w_condD rfl (fun hc => ?_) (fun hnt11 => ?_)
      · skip
        refine w_region rfl ?_
        refine l_val (v_mkS rfl rfl rfl (by simp [Value.oneCell'])) rfl ?_
        refine l_eff0 (e_storeA rfl rfl (by constructor <;> rfl) (by simp [Value.oneCell'])) ?_
        rintro _ _ ⟨rfl, rfl⟩
        refine l_nil ?_
        refine a_bnormal ?_
        refine a_normal ?_
        refine w_seq ?_
        refine w_region rfl ?_
        refine l_val (v_assign rfl) rfl ?_
        refine l_nil ?_
        refine a_normal ?_
        refine w_ret ?_
        first
        | exact a_retD (ts := [2]) H rfl rfl (.inl ⟨by unfold kindOk; omega, rfl, rfl⟩)
        | (subst hc; first | exact a_retOf (bc := b3) rfl rfl (.pad bt) (by unfold codecH; ac_rfl) | exact a_retOf (bc := b3) rfl rfl (.ping bt) (by unfold codecH; ac_rfl) | exact a_retOf rfl rfl .ack (by rw [HP.emp_mul]) | exact a_retOf rfl rfl .reset (by rw [HP.emp_mul]) | exact a_retOf rfl rfl .data (by rw [HP.emp_mul]) | exact a_retOf (bc := b3) rfl rfl (.bye bt bq) (by unfold codecH; ac_rfl))
      · skip
        refine w_seq ?_
        refine w_region rfl ?_
        refine l_val (v_eqlZ (i := k) (j := 4) rfl rfl) rfl ?_
        refine l_val (v_assign rfl) rfl ?_
        refine l_nil ?_
        refine a_normal ?_
        refine w_condD rfl (fun hc => ?_) (fun hnt14 => ?_)
        · skip
          refine w_region rfl ?_
          refine l_val (v_mkS rfl rfl rfl (by simp [Value.oneCell'])) rfl ?_
          refine l_eff0 (e_storeA rfl rfl (by constructor <;> rfl) (by simp [Value.oneCell'])) ?_
          rintro _ _ ⟨rfl, rfl⟩
          refine l_nil ?_
          refine a_bnormal ?_
          refine a_normal ?_
          refine w_seq ?_
          refine w_region rfl ?_
          refine l_val (v_assign rfl) rfl ?_
          refine l_nil ?_
          refine a_normal ?_
          refine w_ret ?_
          first
          | exact a_retD (ts := [2]) H rfl rfl (.inl ⟨by unfold kindOk; omega, rfl, rfl⟩)
          | (subst hc; first | exact a_retOf (bc := b3) rfl rfl (.pad bt) (by unfold codecH; ac_rfl) | exact a_retOf (bc := b3) rfl rfl (.ping bt) (by unfold codecH; ac_rfl) | exact a_retOf rfl rfl .ack (by rw [HP.emp_mul]) | exact a_retOf rfl rfl .reset (by rw [HP.emp_mul]) | exact a_retOf rfl rfl .data (by rw [HP.emp_mul]) | exact a_retOf (bc := b3) rfl rfl (.bye bt bq) (by unfold codecH; ac_rfl))
        · skip
          refine w_seq ?_
          refine w_region rfl ?_
          refine l_val (v_eqlZ (i := k) (j := 5) rfl rfl) rfl ?_
          refine l_val (v_assign rfl) rfl ?_
          refine l_nil ?_
          refine a_normal ?_
          refine w_condD rfl (fun hc => ?_) (fun hnt17 => ?_)
          · skip
            refine w_region rfl ?_
            refine l_val (v_mkS rfl rfl rfl (by simp [Value.oneCell'])) rfl ?_
            refine l_eff0 (e_storeA rfl rfl (by constructor <;> rfl) (by simp [Value.oneCell'])) ?_
            rintro _ _ ⟨rfl, rfl⟩
            refine l_nil ?_
            refine a_bnormal ?_
            refine a_normal ?_
            refine w_seq ?_
            refine w_region rfl ?_
            refine l_val (v_assign rfl) rfl ?_
            refine l_nil ?_
            refine a_normal ?_
            refine w_ret ?_
            first
            | exact a_retD (ts := [2]) H rfl rfl (.inl ⟨by unfold kindOk; omega, rfl, rfl⟩)
            | (subst hc; first | exact a_retOf (bc := b3) rfl rfl (.pad bt) (by unfold codecH; ac_rfl) | exact a_retOf (bc := b3) rfl rfl (.ping bt) (by unfold codecH; ac_rfl) | exact a_retOf rfl rfl .ack (by rw [HP.emp_mul]) | exact a_retOf rfl rfl .reset (by rw [HP.emp_mul]) | exact a_retOf rfl rfl .data (by rw [HP.emp_mul]) | exact a_retOf (bc := b3) rfl rfl (.bye bt bq) (by unfold codecH; ac_rfl))
          · skip
            refine w_seq ?_
            refine w_region rfl ?_
            refine l_val (v_eqlZ (i := k) (j := 6) rfl rfl) rfl ?_
            refine l_val (v_assign rfl) rfl ?_
            refine l_nil ?_
            refine a_normal ?_
            refine w_condD rfl (fun hc => ?_) (fun hnt20 => ?_)
            · skip
              refine w_region rfl ?_
              refine l_eff (e_call rfl (number_spec _)) rfl ?_
              rintro _ _ ⟨bt, bq, rfl, rfl⟩
              refine l_eff0 (e_storeA rfl rfl (by constructor <;> rfl) (by simp [Value.oneCell'])) ?_
              rintro _ _ ⟨rfl, rfl⟩
              refine l_nil ?_
              refine a_bnormal ?_
              refine a_normal ?_
              refine w_seq ?_
              refine w_region rfl ?_
              refine l_val (v_assign rfl) rfl ?_
              refine l_nil ?_
              refine a_normal ?_
              refine w_ret ?_
              first
              | exact a_retD (ts := [2]) H rfl rfl (.inl ⟨by unfold kindOk; omega, rfl, rfl⟩)
              | (subst hc; first | exact a_retOf (bc := b3) rfl rfl (.pad bt) (by unfold codecH; ac_rfl) | exact a_retOf (bc := b3) rfl rfl (.ping bt) (by unfold codecH; ac_rfl) | exact a_retOf rfl rfl .ack (by rw [HP.emp_mul]) | exact a_retOf rfl rfl .reset (by rw [HP.emp_mul]) | exact a_retOf rfl rfl .data (by rw [HP.emp_mul]) | exact a_retOf (bc := b3) rfl rfl (.bye bt bq) (by unfold codecH; ac_rfl))
            · skip
              refine w_seq ?_
              refine w_region rfl ?_
              refine l_val (v_assign rfl) rfl ?_
              refine l_nil ?_
              refine a_normal ?_
              refine w_ret ?_
              refine a_bret ?_
              refine a_tret ?_
              first
              | exact a_retD (ts := [2]) H rfl rfl (.inl ⟨by unfold kindOk; omega, rfl, rfl⟩)
              | (subst hc; first | exact a_retOf (bc := b3) rfl rfl (.pad bt) (by unfold codecH; ac_rfl) | exact a_retOf (bc := b3) rfl rfl (.ping bt) (by unfold codecH; ac_rfl) | exact a_retOf rfl rfl .ack (by rw [HP.emp_mul]) | exact a_retOf rfl rfl .reset (by rw [HP.emp_mul]) | exact a_retOf rfl rfl .data (by rw [HP.emp_mul]) | exact a_retOf (bc := b3) rfl rfl (.bye bt bq) (by unfold codecH; ac_rfl))

theorem sound_spec (r : RF) (fb bc : Nat) (f1 f2 f3 : FuncId) (us1 us2 us3 : List Value) (C R : HP) (hF : CodecF r.f.kind f1 us1 f2 us2 f3 us3 C) (hw : CodecW B r.f.kind f1 us1 f3 us3 C) (hrk : r.f.kind = r.f.kind) (hm : Mod r) (hr : RdA B R r.b r.o r.f.ranges) :
    Fn Tryd.prog B 64 [ptr fb 0, ptr bc 0] (HP.pts fb 0 (encRF r) * (C * (codecH bc f1 f2 f3 us1 us2 us3 * R))) (fun v H' => v = .bool (decide (okF r.f)) ∧ H' = HP.pts fb 0 (encRF r) * (C * (codecH bc f1 f2 f3 us1 us2 us3 * R))) := by
  refine fn_intro Tryd.func64 rfl rfl rfl ?_
  refine w_seq ?_
  refine w_region rfl ?_
  refine l_val (v_assign rfl) rfl ?_
  refine l_nil ?_
  refine a_normal ?_
  refine w_seq ?_
  refine w_seq ?_
  refine w_any (HP.pts fb 0 (encRF r) * (C * (codecH bc f1 f2 f3 us1 us2 us3 * R))) 11 11 mixed rfl (by kernel_rfl) ?_
  refine s_take 0 rfl (by kernel_rfl) rfl (v_move rfl) ?_
  refine s_take 1 rfl (by kernel_rfl) rfl (v_nilCheck rfl) ?_
  refine s_take 2 rfl (by kernel_rfl) rfl (v_fieldAddr rfl) ?_
  refine s_take 3 rfl (by kernel_rfl) rfl (v_load rfl trivial) ?_
  refine s_take 4 rfl (by kernel_rfl) rfl (v_move rfl) ?_
  refine s_take 5 rfl (by kernel_rfl) rfl (v_nilCheck rfl) ?_
  refine s_take 6 rfl (by kernel_rfl) rfl (v_fieldAddr rfl) ?_
  refine s_take 7 rfl (by kernel_rfl) rfl (v_load rfl trivial) ?_
  refine s_take 10 rfl (by kernel_rfl) rfl (v_move (v := .int .i64 (0 : Nat)) rfl) ?_
  refine s_eff 8 (by kernel_rfl) rfl rfl (e_mk1 rfl rfl (by simp [Value.oneCell']) rfl rfl rfl) ?_
  rintro _ _ ⟨b15, rfl, rfl⟩
  refine ⟨.inr inferInstance, ?_⟩
  refine s_take 9 rfl (by kernel_rfl) rfl (v_lenS rfl) ?_
  refine s_done (by kernel_rfl) ?_
  refine a_normal ?_
  refine w_block ?_
  refine w_heap (H' := arr b15 0 [W64.mk r.f.offset, W64.mk r.f.code] [] * (HP.pts fb 0 (encRF r) * (C * (codecH bc f1 f2 f3 us1 us2 us3 * R)))) rfl ?_
  refine w_loop (fun i : Nat => [(0, ptr fb 0), (1, ptr bc 0), (15, .slice (some ⟨b15, 0, none⟩) 2 2), (16, iN 2), (17, iN i)]) (fun _ => arr b15 0 [W64.mk r.f.offset, W64.mk r.f.code] [] * (HP.pts fb 0 (encRF r) * (C * (codecH bc f1 f2 f3 us1 us2 us3 * R)))) (fun i => i ≤ 2 ∧ (1 ≤ i → r.f.offset ≤ 4611686018427387903) ∧ (2 ≤ i → r.f.code ≤ 4611686018427387903)) (fun i => 2 - i) 0 ⟨by omega, by omega, by omega⟩ (.cons rfl (.cons rfl (.cons rfl (.cons rfl (.cons rfl .nil))))) rfl ?_
  rintro i ⟨hi, ho1, ho2⟩
  dsimp only at hi ho1 ho2 ⊢
  refine w_seq ?_
  refine w_region rfl ?_
  refine l_val (v_lss (j := 2) rfl rfl) rfl ?_
  refine l_nil ?_
  refine a_normal ?_
  refine w_seq ?_
  refine w_condD rfl (fun hlt => ?_) (fun hlt => ?_)
  · skip
    refine w_skip ?_
    refine a_normal ?_
    refine w_seq ?_
    refine w_block ?_
    refine w_seq ?_
    refine w_region rfl ?_
    refine l_val (v_indexAddrS rfl rfl hlt) rfl ?_
    refine l_val (v_loadW (xs := [W64.mk r.f.offset, W64.mk r.f.code]) rfl inferInstance hlt) rfl ?_
    refine l_val (v_assign rfl) rfl ?_
    refine l_nil ?_
    refine a_normal ?_
    refine w_seq ?_
    refine w_region rfl ?_
    refine l_val (v_move rfl) rfl ?_
    refine l_val (v_gtr (j := 4611686018427387903) rfl rfl) rfl ?_
    refine l_nil ?_
    refine a_normal ?_
    refine w_condD rfl (fun hbig => ?_) (fun hbig => ?_)
    · skip
      refine w_seq ?_
      refine w_region rfl ?_
      refine l_val (v_assign rfl) rfl ?_
      refine l_nil ?_
      refine a_normal ?_
      refine w_ret ?_
      refine a_bret ?_
      refine a_tret ?_
      refine a_tret ?_
      refine a_bret ?_
      refine a_tret ?_
      first
      | exact a_retD (ts := [4]) (HP.pts fb 0 (encRF r) * (C * (codecH bc f1 f2 f3 us1 us2 us3 * R))) rfl rfl ⟨congrArg Value.bool (by rw [decide_eq_decide]; exact ⟨fun h => ⟨hof, hcd, hg1, hg2, h, hF.kind⟩, fun h => h.2.2.2.2.1⟩), rfl⟩
      | exact a_retD (ts := [4]) (HP.pts fb 0 (encRF r) * (C * (codecH bc f1 f2 f3 us1 us2 us3 * R))) rfl rfl ⟨congrArg Value.bool (decide_eq_false (fun h => hg2 h.2.2.2.1)).symm, rfl⟩
      | exact a_retD (ts := [4]) (HP.pts fb 0 (encRF r) * (C * (codecH bc f1 f2 f3 us1 us2 us3 * R))) rfl rfl ⟨congrArg Value.bool (decide_eq_false (fun h => hg1 h.2.2.1)).symm, rfl⟩
      | exact a_retD (ts := [4]) (HP.pts fb 0 (encRF r) * (C * (codecH bc f1 f2 f3 us1 us2 us3 * R))) rfl rfl ⟨congrArg Value.bool (decide_eq_false (fun h => by
          have h1 := h.1
          have h2 := h.2.1
          rcases (by omega : i = 0 ∨ i = 1) with rfl | rfl
          · simp at hbig; omega
          · simp at hbig; omega)).symm, rfl⟩
    · skip
      refine w_skip ?_
      refine a_bnormal ?_
      refine a_normal ?_
      refine w_region rfl ?_
      refine l_val (v_addI (j := 1) rfl rfl (by omega)) rfl ?_
      refine l_val (v_move rfl) rfl ?_
      refine l_nil ?_
      refine a_loop (i + 1) ⟨by omega, fun h => ?_, fun h => ?_⟩ (by omega) (.cons rfl (.cons rfl (.cons rfl (.cons rfl (.cons rfl .nil))))) rfl
      · rcases (by omega : i = 0 ∨ 1 ≤ i) with rfl | h1
        · simpa using hbig
        · exact ho1 h1
      · obtain rfl : i = 1 := by omega
        simpa using hbig
  · skip
    have hof := ho1 (by omega)
    have hcd := ho2 (by omega)
    refine w_exit ?_
    refine a_texit ?_
    refine a_texit ?_
    refine a_bexit ?_
    refine a_normal ?_
    refine w_seq ?_
    refine w_ent (HP.pts fb 0 (encRF r) * (C * (codecH bc f1 f2 f3 us1 us2 us3 * R))) ?_
    refine w_region rfl ?_
    refine l_val (v_move rfl) rfl ?_
    refine l_val (v_nilCheck rfl) rfl ?_
    refine l_val (v_fieldAddr rfl) rfl ?_
    refine l_val (v_load rfl trivial) rfl ?_
    refine l_val (v_geqZ (i := r.f.stream) (j := 0) rfl rfl) rfl ?_
    refine l_val (v_move rfl) rfl ?_
    refine l_case 29 rfl (fun hg1 => ?_) (fun hg1 => ?_)
    · skip
      refine l_gY rfl rfl rfl (decide_eq_true hg1) ?_
      refine l_val (v_move rfl) rfl ?_
      refine l_gY rfl rfl rfl (decide_eq_true hg1) ?_
      refine l_val (v_nilCheck rfl) rfl ?_
      refine l_gY rfl rfl rfl (decide_eq_true hg1) ?_
      refine l_val (v_fieldAddr rfl) rfl ?_
      refine l_gY rfl rfl rfl (decide_eq_true hg1) ?_
      refine l_val (v_load rfl trivial) rfl ?_
      refine l_gY rfl rfl rfl (decide_eq_true hg1) ?_
      refine l_val (v_lssZ (i := r.f.stream) (j := 4) rfl rfl) rfl ?_
      refine l_val (v_pickY (decide_eq_true hg1) rfl rfl) rfl ?_
      refine l_val (v_move rfl) rfl ?_
      refine l_case 36 rfl (fun hg2 => ?_) (fun hg2 => ?_)
      · skip
        refine l_gY rfl rfl rfl (decide_eq_true hg2) ?_
        refine l_val (v_move rfl) rfl ?_
        refine l_gY rfl rfl rfl (decide_eq_true hg2) ?_
        refine l_val (v_nilCheck rfl) rfl ?_
        refine l_gY rfl rfl rfl (decide_eq_true hg2) ?_
        refine l_val (v_fieldAddr rfl) rfl ?_
        refine l_gY rfl rfl rfl (decide_eq_true hg2) ?_
        refine l_val (v_load rfl trivial) rfl ?_
        refine l_gY rfl rfl rfl (decide_eq_true hg2) ?_
        refine l_val (v_move rfl) rfl ?_
        refine l_gY rfl rfl rfl (decide_eq_true hg2) ?_
        refine l_eff (e_callV (hf := hw.call3) rfl rfl (hw.sound r fb _ hm hrk hof inferInstance)) rfl ?_
        rintro _ _ ⟨rfl, rfl⟩
        refine l_val (v_pickY (decide_eq_true hg2) rfl rfl) rfl ?_
        refine l_val (v_assign rfl) rfl ?_
        refine l_nil ?_
        refine a_normal ?_
        refine w_ret ?_
        first
        | exact a_retD (ts := [4]) (HP.pts fb 0 (encRF r) * (C * (codecH bc f1 f2 f3 us1 us2 us3 * R))) rfl rfl ⟨congrArg Value.bool (by rw [decide_eq_decide]; exact ⟨fun h => ⟨hof, hcd, hg1, hg2, h, hF.kind⟩, fun h => h.2.2.2.2.1⟩), rfl⟩
        | exact a_retD (ts := [4]) (HP.pts fb 0 (encRF r) * (C * (codecH bc f1 f2 f3 us1 us2 us3 * R))) rfl rfl ⟨congrArg Value.bool (decide_eq_false (fun h => hg2 h.2.2.2.1)).symm, rfl⟩
        | exact a_retD (ts := [4]) (HP.pts fb 0 (encRF r) * (C * (codecH bc f1 f2 f3 us1 us2 us3 * R))) rfl rfl ⟨congrArg Value.bool (decide_eq_false (fun h => hg1 h.2.2.1)).symm, rfl⟩
        | exact a_retD (ts := [4]) (HP.pts fb 0 (encRF r) * (C * (codecH bc f1 f2 f3 us1 us2 us3 * R))) rfl rfl ⟨congrArg Value.bool (decide_eq_false (fun h => by
            have h1 := h.1
            have h2 := h.2.1
            rcases (by omega : i = 0 ∨ i = 1) with rfl | rfl
            · simp at hbig; omega
            · simp at hbig; omega)).symm, rfl⟩
      · skip
        refine l_gN rfl rfl rfl (decide_eq_false hg2) ?_
        refine l_gN rfl rfl rfl (decide_eq_false hg2) ?_
        refine l_gN rfl rfl rfl (decide_eq_false hg2) ?_
        refine l_gN rfl rfl rfl (decide_eq_false hg2) ?_
        refine l_gN rfl rfl rfl (decide_eq_false hg2) ?_
        refine l_gN rfl rfl rfl (decide_eq_false hg2) ?_
        refine l_val (v_pickN (decide_eq_false hg2) rfl rfl) rfl ?_
        refine l_val (v_assign rfl) rfl ?_
        refine l_nil ?_
        refine a_normal ?_
        refine w_ret ?_
        first
        | exact a_retD (ts := [4]) (HP.pts fb 0 (encRF r) * (C * (codecH bc f1 f2 f3 us1 us2 us3 * R))) rfl rfl ⟨congrArg Value.bool (by rw [decide_eq_decide]; exact ⟨fun h => ⟨hof, hcd, hg1, hg2, h, hF.kind⟩, fun h => h.2.2.2.2.1⟩), rfl⟩
        | exact a_retD (ts := [4]) (HP.pts fb 0 (encRF r) * (C * (codecH bc f1 f2 f3 us1 us2 us3 * R))) rfl rfl ⟨congrArg Value.bool (decide_eq_false (fun h => hg2 h.2.2.2.1)).symm, rfl⟩
        | exact a_retD (ts := [4]) (HP.pts fb 0 (encRF r) * (C * (codecH bc f1 f2 f3 us1 us2 us3 * R))) rfl rfl ⟨congrArg Value.bool (decide_eq_false (fun h => hg1 h.2.2.1)).symm, rfl⟩
        | exact a_retD (ts := [4]) (HP.pts fb 0 (encRF r) * (C * (codecH bc f1 f2 f3 us1 us2 us3 * R))) rfl rfl ⟨congrArg Value.bool (decide_eq_false (fun h => by
            have h1 := h.1
            have h2 := h.2.1
            rcases (by omega : i = 0 ∨ i = 1) with rfl | rfl
            · simp at hbig; omega
            · simp at hbig; omega)).symm, rfl⟩
    · skip
      refine l_gN rfl rfl rfl (decide_eq_false hg1) ?_
      refine l_gN rfl rfl rfl (decide_eq_false hg1) ?_
      refine l_gN rfl rfl rfl (decide_eq_false hg1) ?_
      refine l_gN rfl rfl rfl (decide_eq_false hg1) ?_
      refine l_gN rfl rfl rfl (decide_eq_false hg1) ?_
      refine l_val (v_pickN (decide_eq_false hg1) rfl rfl) rfl ?_
      refine l_val (v_move rfl) rfl ?_
      refine l_gN rfl rfl rfl rfl ?_
      refine l_gN rfl rfl rfl rfl ?_
      refine l_gN rfl rfl rfl rfl ?_
      refine l_gN rfl rfl rfl rfl ?_
      refine l_gN rfl rfl rfl rfl ?_
      refine l_gN rfl rfl rfl rfl ?_
      refine l_val (v_pickN rfl rfl rfl) rfl ?_
      refine l_val (v_assign rfl) rfl ?_
      refine l_nil ?_
      refine a_normal ?_
      refine w_ret ?_
      first
      | exact a_retD (ts := [4]) (HP.pts fb 0 (encRF r) * (C * (codecH bc f1 f2 f3 us1 us2 us3 * R))) rfl rfl ⟨congrArg Value.bool (by rw [decide_eq_decide]; exact ⟨fun h => ⟨hof, hcd, hg1, hg2, h, hF.kind⟩, fun h => h.2.2.2.2.1⟩), rfl⟩
      | exact a_retD (ts := [4]) (HP.pts fb 0 (encRF r) * (C * (codecH bc f1 f2 f3 us1 us2 us3 * R))) rfl rfl ⟨congrArg Value.bool (decide_eq_false (fun h => hg2 h.2.2.2.1)).symm, rfl⟩
      | exact a_retD (ts := [4]) (HP.pts fb 0 (encRF r) * (C * (codecH bc f1 f2 f3 us1 us2 us3 * R))) rfl rfl ⟨congrArg Value.bool (decide_eq_false (fun h => hg1 h.2.2.1)).symm, rfl⟩
      | exact a_retD (ts := [4]) (HP.pts fb 0 (encRF r) * (C * (codecH bc f1 f2 f3 us1 us2 us3 * R))) rfl rfl ⟨congrArg Value.bool (decide_eq_false (fun h => by
          have h1 := h.1
          have h2 := h.2.1
          rcases (by omega : i = 0 ∨ i = 1) with rfl | rfl
          · simp at hbig; omega
          · simp at hbig; omega)).symm, rfl⟩
end Go.Proofs.YtgfdlpcdjklcoaaDoor
