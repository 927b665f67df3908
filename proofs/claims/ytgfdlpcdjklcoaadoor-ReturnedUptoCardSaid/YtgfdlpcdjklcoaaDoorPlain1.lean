/- Plain laws on words and lists of bytes: the two ways to read eight bytes, to turn a word, to hash; no condition. -/
import Derived.Test.YtgfdlpcdjklcoaaDoorBits
namespace Go.Proofs.YtgfdlpcdjklcoaaDoor

/-- eight bytes, the lowest first -/
def le (xs : List UInt8) : Nat → UInt64
  | 0 => 0
  | i + 1 => le xs i ||| ((xs.getD i 0).toUInt64 <<< UInt64.ofNat (8 * i))
def leN (xs : List UInt8) : Nat → Nat
  | 0 => 0
  | i + 1 => leN xs i + (xs.getD i 0).toNat * 2 ^ (8 * i)
theorem leN_lt (xs : List UInt8) : ∀ i, leN xs i < 2 ^ (8 * i)
  | 0 => by simp [leN]
  | i + 1 => by
    have h1 := leN_lt xs i
    have h2 := (xs.getD i 0).toNat_lt
    simp only [leN]
    rw [show 8 * (i + 1) = 8 * i + 8 by omega, Nat.pow_add]
    have : (xs.getD i 0).toNat * 2 ^ (8 * i) ≤ 255 * 2 ^ (8 * i) := Nat.mul_le_mul_right _ (by omega)
    omega
theorem le_toNat (xs : List UInt8) : ∀ i, i ≤ 8 → (le xs i).toNat = leN xs i
  | 0, _ => rfl
  | i + 1, h => by
    have ih := le_toNat xs i (by omega)
    have h1 := leN_lt xs i
    have h2 := (xs.getD i 0).toNat_lt
    have h3 : (xs.getD i 0).toNat * 2 ^ (8 * i) < 18446744073709551616 := by
      have h4 : (xs.getD i 0).toNat * 2 ^ (8 * i) < 2 ^ 8 * 2 ^ (8 * i) := Nat.mul_lt_mul_of_pos_right (by omega) (Nat.two_pow_pos _)
      rw [← Nat.pow_add] at h4
      have h5 : 2 ^ (8 + 8 * i) ≤ 2 ^ 64 := Nat.pow_le_pow_right (by omega) (by omega)
      omega
    simp only [le, leN, UInt64.toNat_or, ih, UInt64.toNat_shiftLeft, ofNat_shift (8 * i) (by omega), UInt8.toNat_toUInt64, Nat.shiftLeft_eq]
    rw [show (2:Nat)^64 = 18446744073709551616 by decide, Nat.mod_eq_of_lt h3, Nat.or_comm, Nat.mul_comm, ← Nat.two_pow_add_eq_or_of_lt h1]
    omega
/-- from the top -/
def acc (xs : List UInt8) (m : Nat) : Nat → UInt64
  | 0 => 0
  | j + 1 => acc xs m j * 256 + (xs.getD (m - 1 - j) 0).toUInt64
def accN (xs : List UInt8) (m : Nat) : Nat → Nat
  | 0 => 0
  | j + 1 => accN xs m j * 256 + (xs.getD (m - 1 - j) 0).toNat
theorem accN_lt (xs : List UInt8) (m : Nat) : ∀ j, accN xs m j < 2 ^ (8 * j)
  | 0 => by simp [accN]
  | j + 1 => by
    have h1 := accN_lt xs m j
    have h2 := (xs.getD (m - 1 - j) 0).toNat_lt
    simp only [accN]
    rw [show 8 * (j + 1) = 8 * j + 8 by omega, Nat.pow_add, show (2:Nat)^8 = 256 by decide]; omega
theorem acc_toNat (xs : List UInt8) (m : Nat) : ∀ j, j ≤ 8 → (acc xs m j).toNat = accN xs m j
  | 0, _ => rfl
  | j + 1, h => by
    have ih := acc_toNat xs m j (by omega)
    have h1 := accN_lt xs m (j + 1)
    have h5 : 2 ^ (8 * (j + 1)) ≤ 2 ^ 64 := Nat.pow_le_pow_right (by omega) (by omega)
    have h2 := (xs.getD (m - 1 - j) 0).toNat_lt
    simp only [accN] at h1 ⊢
    simp only [acc, UInt64.toNat_add, UInt64.toNat_mul, ih, UInt8.toNat_toUInt64]
    rw [show (256 : UInt64).toNat = 256 from rfl]
    rw [show (2:Nat)^64 = 18446744073709551616 by decide] at *
    omega
theorem accN_leN (xs : List UInt8) (m : Nat) : ∀ j, j ≤ m → leN xs m = accN xs m j * 2 ^ (8 * (m - j)) + leN xs (m - j)
  | 0, _ => by simp [accN]
  | j + 1, h => by
    rw [accN_leN xs m j (by omega), show m - j = (m - (j + 1)) + 1 by omega]
    simp only [leN, accN]
    rw [show m - 1 - j = m - (j + 1) by omega, show 8 * (m - (j + 1) + 1) = 8 * (m - (j + 1)) + 8 by omega, Nat.pow_add, show (2:Nat)^8 = 256 by decide, Nat.add_mul, Nat.mul_assoc (accN xs m j) 256, Nat.mul_comm 256]
    omega
theorem acc_le (xs : List UInt8) : acc xs 8 8 = le xs 8 := by
  apply UInt64.toNat_inj.1
  rw [acc_toNat xs 8 8 (by omega), le_toNat xs 8 (by omega), accN_leN xs 8 8 (by omega)]
  simp [leN]
theorem le_congr {xs ys : List UInt8} : ∀ i, (∀ j, j < i → xs.getD j 0 = ys.getD j 0) → le xs i = le ys i
  | 0, _ => rfl
  | i + 1, h => by simp only [le]; rw [le_congr i (fun j hj => h j (by omega)), h i (by omega)]
/-- one bit to the left, around -/
def turn1 (x : UInt64) : UInt64 := x * 2 + (x >>> UInt64.ofNat 63)
def turns : Nat → UInt64 → UInt64
  | 0, x => x
  | n + 1, x => turn1 (turns n x)
theorem turns_toNat (x : UInt64) : ∀ k, k ≤ 63 → (turns k x).toNat = x.toNat * 2 ^ k % 2 ^ 64 + x.toNat / 2 ^ (64 - k)
  | 0, _ => by
    have := x.toNat_lt
    simp only [turns, Nat.pow_zero, Nat.mul_one, Nat.sub_zero]
    rw [Nat.mod_eq_of_lt this, Nat.div_eq_of_lt this]; rfl
  | k + 1, h => by
    have ih := turns_toNat x k (by omega)
    have hx := x.toNat_lt
    simp only [turns, turn1, UInt64.toNat_add, UInt64.toNat_mul, UInt64.toNat_shiftRight, ofNat_shift 63 (by omega), ih, Nat.shiftRight_eq_div_pow]
    rw [show (2 : UInt64).toNat = 2 from rfl]
    generalize x.toNat = N at hx ⊢
    -- N = q * 2^(64-k) + r, q < 2^k, r < 2^(64-k)
    obtain ⟨m, hm⟩ : ∃ m, 64 - k = m + 1 := ⟨63 - k, by omega⟩
    have hkm : k = 63 - m := by omega
    have hq : N / 2 ^ (m + 1) < 2 ^ k := by
      rw [Nat.div_lt_iff_lt_mul (Nat.two_pow_pos _), ← Nat.pow_add, show k + (m + 1) = 64 by omega]; exact hx
    have e1 : N * 2 ^ k % 2 ^ 64 = N % 2 ^ (m + 1) * 2 ^ k := by
      rw [show (2 : Nat) ^ 64 = 2 ^ (m + 1) * 2 ^ k by rw [← Nat.pow_add]; congr 1; omega, Nat.mul_mod_mul_right]
    have e2 : N * 2 ^ (k + 1) % 2 ^ 64 = N % 2 ^ m * 2 ^ (k + 1) := by
      rw [show (2 : Nat) ^ 64 = 2 ^ m * 2 ^ (k + 1) by rw [← Nat.pow_add]; congr 1; omega, Nat.mul_mod_mul_right]
    rw [hm, show 64 - (k + 1) = m by omega, e1, e2]
    have e3 : N % 2 ^ (m + 1) = N % 2 ^ m + 2 ^ m * (N / 2 ^ m % 2) := Nat.mod_pow_succ
    have e4 : N / 2 ^ (m + 1) = N / 2 ^ m / 2 := by rw [Nat.pow_succ, Nat.div_div_eq_div_mul]
    have e5 : 2 ^ m * 2 ^ k = 2 ^ 63 := by rw [← Nat.pow_add]; congr 1; omega
    have hr : N % 2 ^ m < 2 ^ m := Nat.mod_lt _ (Nat.two_pow_pos _)
    rw [e4] at hq
    rw [e3, e4]
    clear e1 e2 e3 e4 ih
    generalize N % 2 ^ m = A at *
    generalize N / 2 ^ m = C at *
    have e6 : (A + 2 ^ m * (C % 2)) * 2 ^ k = A * 2 ^ k + 2 ^ 63 * (C % 2) := by
      rw [Nat.add_mul, Nat.mul_right_comm, e5]
    have e7 : A * 2 ^ k + 2 ^ k ≤ 2 ^ 63 := by
      rw [← e5, ← Nat.succ_mul]; exact Nat.mul_le_mul_right _ hr
    rw [e6, show A * 2 ^ (k + 1) = A * 2 ^ k * 2 by rw [Nat.pow_succ, Nat.mul_assoc]]
    clear e6 e5
    generalize A * 2 ^ k = U at *
    generalize 2 ^ k = K at *
    rw [show (2:Nat) ^ 63 = 9223372036854775808 by decide, show (2:Nat) ^ 64 = 18446744073709551616 by decide] at *
    rcases (show C % 2 = 0 ∨ C % 2 = 1 by omega) with h0 | h0
    · rw [h0]
      have hV : U + 9223372036854775808 * 0 + C / 2 < 9223372036854775808 := by omega
      rw [Nat.div_eq_of_lt hV, Nat.mod_eq_of_lt (a := (U + 9223372036854775808 * 0 + C / 2) * 2) (by omega)]; omega
    · rw [h0]
      have hV : U + C / 2 < 9223372036854775808 := by omega
      have h1 : (U + 9223372036854775808 * 1 + C / 2) / 9223372036854775808 = 1 := by omega
      have h2 : (U + 9223372036854775808 * 1 + C / 2) * 2 % 18446744073709551616 = (U + C / 2) * 2 := by omega
      rw [h1, h2]; omega
theorem turns_rotl (x : UInt64) (k : Nat) (h0 : 0 < k) (h : k ≤ 63) : turns k x = rotl x k := by
  apply UInt64.toNat_inj.1
  rw [turns_toNat x k h, rotl, UInt64.toNat_or, UInt64.toNat_shiftLeft, UInt64.toNat_shiftRight, ofNat_shift k (by omega), ofNat_shift (64 - k) (by omega), Nat.shiftLeft_eq, Nat.shiftRight_eq_div_pow]
  have hx := x.toNat_lt
  have hq : x.toNat / 2 ^ (64 - k) < 2 ^ k := by
    rw [Nat.div_lt_iff_lt_mul (Nat.two_pow_pos _), ← Nat.pow_add, show k + (64 - k) = 64 by omega]; exact hx
  have e1 : x.toNat * 2 ^ k % 2 ^ 64 = 2 ^ k * (x.toNat % 2 ^ (64 - k)) := by
    rw [show (2 : Nat) ^ 64 = 2 ^ (64 - k) * 2 ^ k by rw [← Nat.pow_add]; congr 1; omega, Nat.mul_mod_mul_right, Nat.mul_comm]
  rw [e1, Nat.two_pow_add_eq_or_of_lt hq]
end Go.Proofs.YtgfdlpcdjklcoaaDoor
