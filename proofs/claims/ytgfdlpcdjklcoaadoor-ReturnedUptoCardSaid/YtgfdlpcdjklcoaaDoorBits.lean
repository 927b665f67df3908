/- Operations on words of 64 and 8 bits, as Lean's own; no condition. -/
import Derived.Test.YtgfdlpcdjklcoaaDoorSlice2
namespace Go.Proofs.YtgfdlpcdjklcoaaDoor
open Go Go.RowKit
abbrev u64 (x : UInt64) : Value := .int .u64 (x.toNat : Nat)
@[reducible] instance : Lay UInt64 := ⟨1, fun b => [u64 b], 0, fun _ => rfl, fun _ v h => by rw [List.mem_singleton.1 h]; rfl⟩
theorem ofNat_shift (j : Nat) (h : j < 64) : (UInt64.ofNat j).toNat % 64 = j := by
  rw [UInt64.toNat_ofNat']; omega
section
variable {P : Program} {B : World} {n : Nat} {E : Env} {H : HP} {d : Option Tmp} {T T' ty : TypeId} {pos : String} {af : Array Edge} {g : Option (Nat × Bool)} {x y : Operand}
theorem v_add64 {a b : UInt64} (hx : ev E x = some (u64 a)) (hy : ev E y = some (u64 b)) : Val P B n ⟨d, .binOp .add T x y T', ty, pos, af, g⟩ E H (u64 (a + b)) := by
  have := v_addW (P := P) (B := B) (n := n) (H := H) (d := d) (T := T) (T' := T') (ty := ty) (pos := pos) (af := af) (g := g) hx hy
  rw [show u64 (a + b) = .int .u64 ((a.toNat + b.toNat) % 18446744073709551616 : Nat) by rw [u64, UInt64.toNat_add]]; exact this
theorem v_mul64 {a b : UInt64} (hx : ev E x = some (u64 a)) (hy : ev E y = some (u64 b)) : Val P B n ⟨d, .binOp .mul T x y T', ty, pos, af, g⟩ E H (u64 (a * b)) := by
  have := v_mulW (P := P) (B := B) (n := n) (H := H) (d := d) (T := T) (T' := T') (ty := ty) (pos := pos) (af := af) (g := g) hx hy
  rw [show u64 (a * b) = .int .u64 ((a.toNat * b.toNat) % 18446744073709551616 : Nat) by rw [u64, UInt64.toNat_mul]]; exact this
theorem v_xor64 {a b : UInt64} (hx : ev E x = some (u64 a)) (hy : ev E y = some (u64 b)) : Val P B n ⟨d, .binOp .xor T x y T', ty, pos, af, g⟩ E H (u64 (a ^^^ b)) := by
  have := v_xorU (P := P) (B := B) (n := n) (H := H) (d := d) (T := T) (T' := T') (ty := ty) (pos := pos) (af := af) (g := g) hx hy ⟨a.toNat_lt, b.toNat_lt⟩
  rw [show u64 (a ^^^ b) = .int .u64 (a.toNat ^^^ b.toNat : Nat) by rw [u64, UInt64.toNat_xor]]; exact this
theorem v_or64 {a b : UInt64} (hx : ev E x = some (u64 a)) (hy : ev E y = some (u64 b)) : Val P B n ⟨d, .binOp .or T x y T', ty, pos, af, g⟩ E H (u64 (a ||| b)) := by
  have := v_orU (P := P) (B := B) (n := n) (H := H) (d := d) (T := T) (T' := T') (ty := ty) (pos := pos) (af := af) (g := g) hx hy ⟨a.toNat_lt, b.toNat_lt⟩
  rw [show u64 (a ||| b) = .int .u64 (a.toNat ||| b.toNat : Nat) by rw [u64, UInt64.toNat_or]]; exact this
theorem v_shl64 {a : UInt64} {k : IntKind} {j : Nat} (hx : ev E x = some (u64 a)) (hy : ev E y = some (.int k j)) (h : j < 64) :
    Val P B n ⟨d, .binOp .shl T x y T', ty, pos, af, g⟩ E H (u64 (a <<< UInt64.ofNat j)) := by
  have := v_shlU (P := P) (B := B) (n := n) (H := H) (d := d) (T := T) (T' := T') (ty := ty) (pos := pos) (af := af) (g := g) hx hy (by omega)
  rw [show u64 (a <<< UInt64.ofNat j) = .int .u64 (a.toNat * 2 ^ j % 18446744073709551616 : Nat) by
    rw [u64, UInt64.toNat_shiftLeft, ofNat_shift j h, Nat.shiftLeft_eq]]; exact this
theorem v_shr64 {a : UInt64} {k : IntKind} {j : Nat} (hx : ev E x = some (u64 a)) (hy : ev E y = some (.int k j)) (h : j < 64) :
    Val P B n ⟨d, .binOp .shr T x y T', ty, pos, af, g⟩ E H (u64 (a >>> UInt64.ofNat j)) := by
  have := v_shrU (P := P) (B := B) (n := n) (H := H) (d := d) (T := T) (T' := T') (ty := ty) (pos := pos) (af := af) (g := g) hx hy (by omega)
  rw [show u64 (a >>> UInt64.ofNat j) = .int .u64 (a.toNat / 2 ^ j : Nat) by
    rw [u64, UInt64.toNat_shiftRight, ofNat_shift j h, Nat.shiftRight_eq_div_pow]]; exact this
theorem v_xorB {a b : UInt8} (hx : ev E x = some (u8 a)) (hy : ev E y = some (u8 b)) : Val P B n ⟨d, .binOp .xor T x y T', ty, pos, af, g⟩ E H (u8 (a ^^^ b)) := by
  have := v_xor8 (P := P) (B := B) (n := n) (H := H) (d := d) (T := T) (T' := T') (ty := ty) (pos := pos) (af := af) (g := g) hx hy ⟨a.toNat_lt, b.toNat_lt⟩
  rw [show u8 (a ^^^ b) = .int .u8 (a.toNat ^^^ b.toNat : Nat) by rw [u8, UInt8.toNat_xor]]; exact this
theorem v_to64 {a : UInt8} [h1 : TyOf P T (.int .u8)] [h2 : TyOf P T' (.int .u64)] (hx : ev E x = some (u8 a)) : Val P B n ⟨d, .convert T T' x, ty, pos, af, g⟩ E H (u64 a.toUInt64) := by
  have := v_conv (P := P) (B := B) (n := n) (H := H) (d := d) (T := T) (T' := T') (ty := ty) (pos := pos) (af := af) (g := g) hx (fit_u64 (by have := a.toNat_lt; omega))
  rw [show u64 a.toUInt64 = .int .u64 (a.toNat : Nat) by rw [u64, UInt8.toNat_toUInt64]]; exact this
theorem v_to8 {a : UInt64} [h1 : TyOf P T (.int .u64)] [h2 : TyOf P T' (.int .u8)] (hx : ev E x = some (u64 a)) : Val P B n ⟨d, .convert T T' x, ty, pos, af, g⟩ E H (u8 a.toUInt8) := by
  have := v_conv8 (P := P) (B := B) (n := n) (H := H) (d := d) (T := T) (T' := T') (ty := ty) (pos := pos) (af := af) (g := g) hx
  rw [show u8 a.toUInt8 = .int .u8 (a.toNat % 256 : Nat) by rw [u8, UInt64.toNat_toUInt8]]; exact this
theorem v_ito8 {i : Nat} [h1 : TyOf P T (.int .i64)] [h2 : TyOf P T' (.int .u8)] (hx : ev E x = some (.int .i64 i)) : Val P B n ⟨d, .convert T T' x, ty, pos, af, g⟩ E H (u8 (UInt8.ofNat i)) := by
  have := v_conv8 (P := P) (B := B) (n := n) (H := H) (d := d) (T := T) (T' := T') (ty := ty) (pos := pos) (af := af) (g := g) hx
  rw [show u8 (UInt8.ofNat i) = .int .u8 (i % 256 : Nat) by rw [u8, UInt8.toNat_ofNat']]; exact this
end
/-! ### SipHash -/
def rotl (x : UInt64) (k : Nat) : UInt64 := (x <<< UInt64.ofNat k) ||| (x >>> UInt64.ofNat (64 - k))
structure S4 where
  a : UInt64
  b : UInt64
  c : UInt64
  d : UInt64
@[reducible] def s4 (v : S4) : List Value := [u64 v.a, u64 v.b, u64 v.c, u64 v.d]
def sround (v : S4) : S4 :=
  let a := v.a + v.b
  let b := rotl v.b 13 ^^^ a
  let a := rotl a 32
  let c := v.c + v.d
  let d := rotl v.d 16 ^^^ c
  let a := a + d
  let d := rotl d 21 ^^^ a
  let c := c + b
  let b := rotl b 17 ^^^ c
  ⟨a, b, rotl c 32, d⟩
def srounds : Nat → S4 → S4
  | 0, v => v
  | n + 1, v => srounds n (sround v)
theorem srounds_succ (n : Nat) (v : S4) : srounds (n + 1) v = sround (srounds n v) := by
  induction n generalizing v with
  | zero => rfl
  | succ n ih => rw [srounds, ih]; rfl
end Go.Proofs.YtgfdlpcdjklcoaaDoor
