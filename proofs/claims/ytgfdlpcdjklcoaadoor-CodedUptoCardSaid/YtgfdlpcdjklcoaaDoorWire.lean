/- Frames as bytes and back, in plain Lean: what both texts compute; no condition. -/
import Derived.Test.YtgfdlpcdjklcoaaDoorMore3
namespace Go.Proofs.YtgfdlpcdjklcoaaDoor
open Go Go.RowKit
set_option linter.unusedVariables false
abbrev uN (n : Nat) : Value := .int .u64 (n : Nat)
structure Rng where
  lo : Nat
  hi : Nat
 deriving DecidableEq
@[reducible] instance : Lay Rng := ⟨2, fun r => [uN r.lo, uN r.hi], ⟨0, 0⟩, fun _ => rfl, fun _ v h => by simp at h; rcases h with rfl | rfl <;> rfl⟩
structure Frm where
  kind : Int
  stream : Int
  offset : Nat
  code : Nat
  fin : Bool
  data : ByteArray
  ranges : List Rng
def rg (rs : List Rng) (i : Nat) : Rng := rs.getD i ⟨0, 0⟩
def vint (n : Nat) : List UInt8 :=
  if n < 64 then [UInt8.ofNat n]
  else if n < 16384 then [UInt8.ofNat (n / 256 + 64), UInt8.ofNat n]
  else if n < 1073741824 then [UInt8.ofNat (n / 16777216 + 128), UInt8.ofNat (n / 65536), UInt8.ofNat (n / 256), UInt8.ofNat n]
  else [UInt8.ofNat (n / 72057594037927936 + 192), UInt8.ofNat (n / 281474976710656), UInt8.ofNat (n / 1099511627776), UInt8.ofNat (n / 4294967296),
    UInt8.ofNat (n / 16777216), UInt8.ofNat (n / 65536), UInt8.ofNat (n / 256), UInt8.ofNat n]
theorem vint_length (n : Nat) : (vint n).length ≤ 8 := by
  unfold vint; split
  · simp
  split
  · simp
  split <;> simp
def okR (rs : List Rng) (i : Nat) : Prop := (rg rs i).lo ≤ (rg rs i).hi ∧ (rg rs i).hi ≤ 4611686018427387903 ∧ (i = 0 ∨ (2 ≤ (rg rs (i - 1)).lo ∧ (rg rs i).hi + 2 ≤ (rg rs (i - 1)).lo))
instance (rs : List Rng) (i : Nat) : Decidable (okR rs i) := by unfold okR; infer_instance
def okRs (rs : List Rng) : Prop := rs ≠ [] ∧ ∀ i, i < rs.length → okR rs i
instance (rs : List Rng) : Decidable (okRs rs) := by unfold okRs; infer_instance
/-- what hangs on the kind -/
def okK (f : Frm) : Prop := (f.kind = 3 → okRs f.ranges) ∧ (f.kind = 5 → f.data.size + f.offset ≤ 4611686018427387903)
instance (f : Frm) : Decidable (okK f) := by unfold okK; infer_instance
def kindOk (k : Int) : Prop := 1 ≤ k ∧ k ≤ 6
instance (k : Int) : Decidable (kindOk k) := by unfold kindOk; infer_instance
def okF (f : Frm) : Prop := f.offset ≤ 4611686018427387903 ∧ f.code ≤ 4611686018427387903 ∧ 0 ≤ f.stream ∧ f.stream < 4 ∧ okK f ∧ kindOk f.kind
instance (f : Frm) : Decidable (okF f) := by unfold okF; infer_instance
/-- the ranges behind the first, so many of them -/
def encRs (rs : List Rng) : Nat → List UInt8
  | 0 => []
  | k + 1 => encRs rs k ++ vint ((rg rs k).lo - (rg rs (k + 1)).hi - 2) ++ vint ((rg rs (k + 1)).hi - (rg rs (k + 1)).lo)
def encA (rs : List Rng) : List UInt8 := [2] ++ vint (rg rs 0).hi ++ vint (rs.length - 1) ++ vint ((rg rs 0).hi - (rg rs 0).lo) ++ encRs rs (rs.length - 1)
def encF (f : Frm) : List UInt8 :=
  if f.kind = 1 then [0] else if f.kind = 2 then [1] else if f.kind = 3 then encA f.ranges
  else if f.kind = 4 then [4] ++ vint f.stream.toNat ++ vint f.code ++ vint f.offset
  else if f.kind = 5 then [bif f.fin then 9 else 8] ++ vint f.stream.toNat ++ vint f.offset ++ vint f.data.size ++ f.data.data.toList
  else [28] ++ vint f.code
def encAll (fs : List Frm) : List UInt8 := fs.flatMap encF
def encL (fs : List Frm) : Option (List UInt8) := if fs ≠ [] ∧ ∀ f ∈ fs, okF f then some (encAll fs) else none

/-! ### reading -/
def bAt (xs : List UInt8) (a : Nat) : Nat := (xs.getD a 0).toNat
/-- a number of so many bytes more -/
def numAt (xs : List UInt8) (a : Nat) : Nat → Nat
  | 0 => bAt xs a % 64
  | k + 1 => numAt xs a k * 256 + bAt xs (a + k + 1)
theorem bAt_lt (xs : List UInt8) (a : Nat) : bAt xs a < 256 := (xs.getD a 0).toNat_lt
theorem numAt_lt (xs : List UInt8) (a : Nat) : ∀ k, numAt xs a k < 64 * 256 ^ k
  | 0 => by simp [numAt]; omega
  | k + 1 => by
    have h1 := numAt_lt xs a k
    have h2 := bAt_lt xs (a + k + 1)
    rw [numAt, Nat.pow_succ]; omega
def szAt (xs : List UInt8) (a : Nat) : Nat := 2 ^ (bAt xs a / 64)
theorem szAt_cases (xs : List UInt8) (a : Nat) : szAt xs a = 1 ∨ szAt xs a = 2 ∨ szAt xs a = 4 ∨ szAt xs a = 8 := by
  have h := bAt_lt xs a
  unfold szAt
  rcases (by omega : bAt xs a / 64 = 0 ∨ bAt xs a / 64 = 1 ∨ bAt xs a / 64 = 2 ∨ bAt xs a / 64 = 3) with e | e | e | e <;> rw [e] <;> simp
def rdN (xs : List UInt8) (a : Nat) : Option (Nat × Nat) :=
  if a < xs.length ∧ a + szAt xs a ≤ xs.length then some (numAt xs a (szAt xs a - 1), a + szAt xs a) else none
theorem rdN_some {xs : List UInt8} {a n a' : Nat} (h : rdN xs a = some (n, a')) : n ≤ 4611686018427387903 ∧ a < a' ∧ a' ≤ xs.length := by
  unfold rdN at h
  split at h
  · rename_i hc
    simp only [Option.some.injEq, Prod.mk.injEq] at h
    obtain ⟨rfl, rfl⟩ := h
    have h1 := numAt_lt xs a (szAt xs a - 1)
    rcases szAt_cases xs a with e | e | e | e <;> rw [e] at h1 hc ⊢ <;> simp only [Nat.reduceSub] at h1 ⊢ <;> refine ⟨?_, ?_, ?_⟩ <;> omega
  · cases h
def rdS (xs : List UInt8) (a : Nat) : Option (Nat × Nat) := match rdN xs a with
  | some (n, a') => if n < 4 then some (n, a') else none
  | none => none
def rdT (xs : List UInt8) (a : Nat) : Option (List UInt8 × Nat) := match rdN xs a with
  | some (n, a') => if n ≤ xs.length - a' then some ((xs.drop a').take n, a' + n) else none
  | none => none
/-- so many ranges more, below a number -/
def rdR (xs : List UInt8) : Nat → Nat → Nat → Option (List Rng × Nat)
  | 0, _, a => some ([], a)
  | n + 1, lo, a => match rdN xs a with
    | some (gap, a1) => match rdN xs a1 with
      | some (size, a2) => if 2 ≤ lo ∧ gap + 2 ≤ lo ∧ size + gap + 2 ≤ lo then
          match rdR xs n (lo - 2 - gap - size) a2 with
          | some (rs, a3) => some (⟨lo - 2 - gap - size, lo - 2 - gap⟩ :: rs, a3)
          | none => none
        else none
      | none => none
    | none => none
def rdA (xs : List UInt8) (a : Nat) : Option (List Rng × Nat) := match rdN xs a with
  | some (hi, a1) => match rdN xs a1 with
    | some (n, a2) => match rdN xs a2 with
      | some (size, a3) => if size ≤ hi then
          match rdR xs n (hi - size) a3 with
          | some (rs, a4) => some (⟨hi - size, hi⟩ :: rs, a4)
          | none => none
        else none
      | none => none
    | none => none
  | none => none
/-- the kind of a first byte; 0: none -/
def kindOf (t : UInt8) : Nat := if t = 0 then 1 else if t = 1 then 2 else if t = 2 then 3 else if t = 4 then 4 else if t = 8 ∨ t = 9 then 5 else if t = 28 then 6 else 0
/-- what stands behind the first byte -/
def rdK (xs : List UInt8) (k : Nat) (fin : Bool) (a : Nat) : Option (Frm × Nat) :=
  if k = 1 then some (⟨1, 0, 0, 0, fin, ⟨#[]⟩, []⟩, a)
  else if k = 2 then some (⟨2, 0, 0, 0, fin, ⟨#[]⟩, []⟩, a)
  else if k = 3 then match rdA xs a with
    | some (rs, a1) => some (⟨3, 0, 0, 0, fin, ⟨#[]⟩, rs⟩, a1)
    | none => none
  else if k = 4 then match rdS xs a with
    | some (s, a1) => match rdN xs a1 with
      | some (c, a2) => match rdN xs a2 with
        | some (o, a3) => some (⟨4, s, o, c, fin, ⟨#[]⟩, []⟩, a3)
        | none => none
      | none => none
    | none => none
  else if k = 5 then match rdS xs a with
    | some (s, a1) => match rdN xs a1 with
      | some (o, a2) => match rdT xs a2 with
        | some (d, a3) => some (⟨5, s, o, 0, fin, bstr d, []⟩, a3)
        | none => none
      | none => none
    | none => none
  else if k = 6 then match rdN xs a with
    | some (c, a1) => some (⟨6, 0, 0, c, fin, ⟨#[]⟩, []⟩, a1)
    | none => none
  else none
def rdF (xs : List UInt8) (a : Nat) : Option (Frm × Nat) :=
  match rdK xs (kindOf (xs.getD a 0)) (decide (xs.getD a 0 = 9)) (a + 1) with
  | some (f, a') => if okF f then some (f, a') else none
  | none => none
/-- the frames from a place on; or the place of the first that is none -/
def decFrom (xs : List UInt8) (a : Nat) : Except Nat (List Frm) :=
  if a < xs.length then
    match rdF xs a with
    | some (f, a') => if h : a < a' ∧ a < xs.length then match decFrom xs a' with
        | .ok l => .ok (f :: l)
        | .error e => .error e
      else .error a
    | none => .error a
  else .ok []
 termination_by xs.length - a
 decreasing_by omega
def decL (xs : List UInt8) : Except Nat (List Frm) := if xs = [] then .error 0 else decFrom xs 0
theorem rdS_some {xs : List UInt8} {a n a' : Nat} (h : rdS xs a = some (n, a')) : n < 4 ∧ a < a' ∧ a' ≤ xs.length := by
  unfold rdS at h
  split at h
  · rename_i n' a'' e
    split at h
    · simp only [Option.some.injEq, Prod.mk.injEq] at h
      obtain ⟨rfl, rfl⟩ := h
      have := rdN_some e
      exact ⟨by assumption, this.2⟩
    · cases h
  · cases h
theorem rdT_some {xs : List UInt8} {a a' : Nat} {d : List UInt8} (h : rdT xs a = some (d, a')) : a < a' ∧ a' ≤ xs.length ∧ d.length ≤ xs.length := by
  unfold rdT at h
  split at h
  · rename_i n' a'' e
    split at h
    · simp only [Option.some.injEq, Prod.mk.injEq] at h
      obtain ⟨rfl, rfl⟩ := h
      have := rdN_some e
      refine ⟨by omega, by omega, ?_⟩
      simp; omega
    · cases h
  · cases h
theorem rdR_some {xs : List UInt8} : ∀ {n lo a a' : Nat} {rs : List Rng}, rdR xs n lo a = some (rs, a') → a ≤ xs.length → a ≤ a' ∧ a' ≤ xs.length ∧ rs.length = n ∧ 2 * n ≤ a' - a := by
  intro n
  induction n with
  | zero => intro lo a a' rs h ha; simp only [rdR, Option.some.injEq, Prod.mk.injEq] at h; obtain ⟨rfl, rfl⟩ := h; simp; omega
  | succ n ih =>
    intro lo a a' rs h ha
    simp only [rdR] at h
    split at h
    · rename_i gap a1 e1
      split at h
      · rename_i size a2 e2
        split at h
        · split at h
          · rename_i rs' a3 e3
            simp only [Option.some.injEq, Prod.mk.injEq] at h
            obtain ⟨rfl, rfl⟩ := h
            have h1 := rdN_some e1
            have h2 := rdN_some e2
            have h3 := ih e3 (by omega)
            simp only [List.length_cons]
            omega
          · cases h
        · cases h
      · cases h
    · cases h
theorem rdA_some {xs : List UInt8} {a a' : Nat} {rs : List Rng} (h : rdA xs a = some (rs, a')) : a < a' ∧ a' ≤ xs.length ∧ rs ≠ [] ∧ rs.length ≤ xs.length := by
  unfold rdA at h
  split at h
  · rename_i hi a1 e1
    split at h
    · rename_i n a2 e2
      split at h
      · rename_i size a3 e3
        split at h
        · split at h
          · rename_i rs' a4 e4
            simp only [Option.some.injEq, Prod.mk.injEq] at h
            obtain ⟨rfl, rfl⟩ := h
            have h1 := rdN_some e1
            have h2 := rdN_some e2
            have h3 := rdN_some e3
            have h4 := rdR_some e4 h3.2.2
            refine ⟨by omega, by omega, by simp, ?_⟩
            simp only [List.length_cons]; omega
          · cases h
        · cases h
      · cases h
    · cases h
  · cases h
theorem rdK_some {xs : List UInt8} {k a a' : Nat} {fin : Bool} {f : Frm} (h : rdK xs k fin a = some (f, a')) (ha : a ≤ xs.length) : a ≤ a' ∧ a' ≤ xs.length := by
  unfold rdK at h
  split at h
  · simp only [Option.some.injEq, Prod.mk.injEq] at h; obtain ⟨-, rfl⟩ := h; omega
  split at h
  · simp only [Option.some.injEq, Prod.mk.injEq] at h; obtain ⟨-, rfl⟩ := h; omega
  split at h
  · split at h
    · rename_i e
      simp only [Option.some.injEq, Prod.mk.injEq] at h; obtain ⟨-, rfl⟩ := h
      have := rdA_some e; omega
    · cases h
  split at h
  · split at h
    · rename_i e1
      split at h
      · rename_i e2
        split at h
        · rename_i e3
          simp only [Option.some.injEq, Prod.mk.injEq] at h; obtain ⟨-, rfl⟩ := h
          have := rdS_some e1; have := rdN_some e2; have := rdN_some e3; omega
        · cases h
      · cases h
    · cases h
  split at h
  · split at h
    · rename_i e1
      split at h
      · rename_i e2
        split at h
        · rename_i e3
          simp only [Option.some.injEq, Prod.mk.injEq] at h; obtain ⟨-, rfl⟩ := h
          have := rdS_some e1; have := rdN_some e2; have := rdT_some e3; omega
        · cases h
      · cases h
    · cases h
  split at h
  · split at h
    · rename_i e
      simp only [Option.some.injEq, Prod.mk.injEq] at h; obtain ⟨-, rfl⟩ := h
      have := rdN_some e; omega
    · cases h
  · cases h
theorem rdF_some {xs : List UInt8} {a a' : Nat} {f : Frm} (h : rdF xs a = some (f, a')) (ha : a < xs.length) : a < a' ∧ a' ≤ xs.length ∧ okF f := by
  unfold rdF at h
  split at h
  · rename_i e
    split at h
    · simp only [Option.some.injEq, Prod.mk.injEq] at h
      obtain ⟨rfl, rfl⟩ := h
      have := rdK_some e (by omega)
      exact ⟨by omega, by omega, by assumption⟩
    · cases h
  · cases h
theorem decFrom_end {xs : List UInt8} {a : Nat} (h : ¬ a < xs.length) : decFrom xs a = .ok [] := by rw [decFrom, if_neg h]
theorem decFrom_bad {xs : List UInt8} {a : Nat} (h : a < xs.length) (e : rdF xs a = none) : decFrom xs a = .error a := by rw [decFrom, if_pos h, e]
theorem decFrom_step {xs : List UInt8} {a a' : Nat} {f : Frm} (h : a < xs.length) (e : rdF xs a = some (f, a')) : decFrom xs a = match decFrom xs a' with
    | .ok l => .ok (f :: l)
    | .error e => .error e := by
  conv => lhs; rw [decFrom]
  rw [if_pos h, e]
  simp only []
  rw [dif_pos ⟨(rdF_some e h).1, h⟩]
end Go.Proofs.YtgfdlpcdjklcoaaDoor
