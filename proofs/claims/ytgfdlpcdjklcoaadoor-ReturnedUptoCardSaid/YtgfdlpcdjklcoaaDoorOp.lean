/- What one operation yields: values, over the small separation logic; no condition. -/
import Derived.Test.YtgfdlpcdjklcoaaDoorSt
namespace Go.Proofs.YtgfdlpcdjklcoaaDoor
open Go Go.RowKit

/-- the operation yields the value and turns nothing -/
def Val (P : Program) (B : World) (n : Nat) (o : Oper) (E : Env) (H : HP) (v : Value) : Prop :=
  ∀ a w, EOk n E a → Sat B H w → (execOp a.eval o).run P w = .ok (.value v) w

/-! ### facts on the program's types -/
class TyOf (P : Program) (t : TypeId) (d : outParam TypeDesc) : Prop where
  get : P.underlying t = some d
class SzOf (P : Program) (t : TypeId) (k : outParam Nat) : Prop where
  get : ∀ w, (sizeOf t).run P w = .ok k w
class ZeroOf (P : Program) (t : TypeId) (v : outParam Value) : Prop where
  get : ∀ w, (zeroValue t).run P w = .ok v w
class InfoOf (P : Program) (t : TypeId) (bytes : outParam Nat) : Prop where
  get : ∃ i, (∀ w, (typeInfo t).run P w = .ok i w) ∧ i.bytes = bytes
/-- a type of one cell -/
class OneC (P : Program) (t : TypeId) : Prop where
  get : ∀ w, (isAgg t).run P w = .ok false w
  size : ∀ w, (sizeOf t).run P w = .ok 1 w
/-- a struct's or array's type -/
class AggC (P : Program) (t : TypeId) (k : outParam Nat) : Prop where
  get : ∀ w, (isAgg t).run P w = .ok true w
  size : ∀ w, (sizeOf t).run P w = .ok k w
class FldC (P : Program) (t : TypeId) (f : Nat) (k : outParam Nat) : Prop where
  get : ∃ fs, P.underlying t = some (.struct fs) ∧ ∃ g, fs[f]? = some g ∧ g.offset = k ∧ ∃ m, (∀ w, (sizeOf g.type).run P w = .ok m w) ∧ m ≠ 0

theorem run_und {P : Program} {t : TypeId} {d : TypeDesc} (h : P.underlying t = some d) (w : World) : (underlying t).run P w = .ok d w := by
  simp [underlying, h]


section
variable {P : Program} {B : World} {n : Nat} {E : Env} {H : HP} {d : Option Tmp} {T T' ty : TypeId} {pos : String} {af : Array Edge} {g : Option (Nat × Bool)} {x y : Operand}

/-! ### moves -/
theorem v_move {v : Value} (h : ev E x = some v) : Val P B n ⟨d, .move x, ty, pos, af, g⟩ E H v := by
  intro a w he _; simp [execOp, he.ev h]
theorem v_assign {v : Value} (h : ev E x = some v) : Val P B n ⟨d, .assign x, ty, pos, af, g⟩ E H v := by
  intro a w he _; simp [execOp, he.ev h]
theorem v_pick {c : Operand} {b : Bool} {u v : Value} (hc : ev E c = some (.bool b)) (hx : ev E x = some u) (hy : ev E y = some v) :
    Val P B n ⟨d, .pick c x y, ty, pos, af, g⟩ E H (bif b then u else v) := by
  intro a w he _; cases b <;> simp [execOp, he.ev hc, he.ev hx, he.ev hy, asBool]
theorem v_pickT {c : Operand} {u : Value} (hc : ev E c = some (.bool true)) (hx : ev E x = some u) :
    Val P B n ⟨d, .pick c x y, ty, pos, af, g⟩ E H u := by
  intro a w he _; simp [execOp, he.ev hc, he.ev hx, asBool]
theorem v_pickF {c : Operand} {v : Value} (hc : ev E c = some (.bool false)) (hy : ev E y = some v) :
    Val P B n ⟨d, .pick c x y, ty, pos, af, g⟩ E H v := by
  intro a w he _; simp [execOp, he.ev hc, he.ev hy, asBool]
theorem v_extract {i : Nat} {vs : Array Value} {v : Value} (h : ev E x = some (.tuple vs)) (hv : vs[i]? = some v) :
    Val P B n ⟨d, .extract x i, ty, pos, af, g⟩ E H v := by
  intro a w he _; simp [execOp, he.ev h, Instr.extract, hv]
theorem v_nilCheck {p : Addr} (h : ev E x = some (.pointer (some p))) : Val P B n ⟨d, .nilCheck x, ty, pos, af, g⟩ E H (.pointer (some p)) := by
  intro a w he _; simp [execOp, he.ev h]
theorem v_nilCheckI {t : TypeId} {u : Value} (h : ev E x = some (.iface t u)) : Val P B n ⟨d, .nilCheck x, ty, pos, af, g⟩ E H (.iface t u) := by
  intro a w he _; simp [execOp, he.ev h]
theorem v_nilCheckF {f : Nat} {xs ys : Array Value} (h : ev E x = some (.func (.func f) xs ys)) : Val P B n ⟨d, .nilCheck x, ty, pos, af, g⟩ E H (.func (.func f) xs ys) := by
  intro a w he _; simp [execOp, he.ev h]
theorem v_makeFunc {f : Fn} {xs ys : Array Operand} {us vs : Array Value} (h1 : ∀ a, EOk n E a → xs.map a.eval = us) (h2 : ∀ a, EOk n E a → ys.map a.eval = vs) :
    Val P B n ⟨d, .makeFunc f xs ys, ty, pos, af, g⟩ E H (.func f us vs) := by
  intro a w he _; simp only [execOp, Instr.makeFunc, h1 a he, h2 a he]; rfl
theorem v_makeIface {v : Value} (hT : P.concrete T = true) (h : ev E x = some v) :
    Val P B n ⟨d, .makeInterface T x, ty, pos, af, g⟩ E H (.iface T v) := by
  intro a w he _
  simp only [execOp, he.ev h, Sem.run_bind, run_makeInterface w T v hT, Result.andThen_ok, Sem.run_pure]
/-! ### booleans -/
theorem v_not {b : Bool} (h : ev E x = some (.bool b)) : Val P B n ⟨d, .unOp .not T x, ty, pos, af, g⟩ E H (.bool (!b)) := by
  intro a w he _; simp [execOp, he.ev h, Op.unary]
theorem run_equalIn_bool (m : Nat) {T : TypeId} (b c : Bool) (w : World) (hT : P.underlying T = some .bool) : (Op.equalIn (m + 1) T (.bool b) (.bool c)).run P w = .ok (b == c) w := by
  simp only [Op.equalIn, Sem.run_bind, run_und hT, Result.andThen_ok]; rfl
theorem v_eqB {b c : Bool} [hT : TyOf P T .bool] (hx : ev E x = some (.bool b)) (hy : ev E y = some (.bool c)) :
    Val P B n ⟨d, .binOp .eql T x y T', ty, pos, af, g⟩ E H (.bool (b == c)) := by
  intro a w he _
  have h1 := fun w => run_equalIn_bool (P := P) 9999 b c w hT.get
  have h2 : (eqGuard .eql T x y (.bool b) (.bool c)).run P w = .ok () w := rfl
  simp only [execOp, he.ev hx, he.ev hy, Sem.run_bind, h2, Result.andThen_ok, binOp, Op.equal, show Op.maxDepth = 9999 + 1 from rfl, h1, Sem.run_pure]
theorem v_neB {b c : Bool} [hT : TyOf P T .bool] (hx : ev E x = some (.bool b)) (hy : ev E y = some (.bool c)) :
    Val P B n ⟨d, .binOp .neq T x y T', ty, pos, af, g⟩ E H (.bool (!(b == c))) := by
  intro a w he _
  have h1 := fun w => run_equalIn_bool (P := P) 9999 b c w hT.get
  have h2 : (eqGuard .neq T x y (.bool b) (.bool c)).run P w = .ok () w := rfl
  simp only [execOp, he.ev hx, he.ev hy, Sem.run_bind, h2, Result.andThen_ok, binOp, Op.equal, show Op.maxDepth = 9999 + 1 from rfl, h1, Sem.run_pure]
/-! ### integers -/
theorem v_int {op : BinOp} {k : IntKind} {i j : Int} {v : Value} (hx : ev E x = some (.int k i)) (hy : ev E y = some (.int k j))
    (hv : ∀ w, (binOp op T (.int k i) (.int k j)).run P w = .ok v w) : Val P B n ⟨d, .binOp op T x y T', ty, pos, af, g⟩ E H v := by
  intro a w he _
  simp only [execOp, he.ev hx, he.ev hy, Sem.run_bind, hv]
  cases op <;> rfl
theorem v_addI {i j : Nat} (hx : ev E x = some (.int .i64 i)) (hy : ev E y = some (.int .i64 j)) (h : i + j < 9223372036854775808) :
    Val P B n ⟨d, .binOp .add T x y T', ty, pos, af, g⟩ E H (.int .i64 (i + j : Nat)) :=
  v_int hx hy fun w => by simp [binOp, Op.intArith]; exact IntWalk.i64_in _ (by omega)
theorem v_addU {i j : Nat} (hx : ev E x = some (.int .u64 i)) (hy : ev E y = some (.int .u64 j)) (h : i + j < 18446744073709551616) :
    Val P B n ⟨d, .binOp .add T x y T', ty, pos, af, g⟩ E H (.int .u64 (i + j : Nat)) :=
  v_int hx hy fun w => by simp [binOp, Op.intArith]; exact IntWalk.u64_in _ (by omega)
theorem v_addW {i j : Nat} (hx : ev E x = some (.int .u64 i)) (hy : ev E y = some (.int .u64 j)) :
    Val P B n ⟨d, .binOp .add T x y T', ty, pos, af, g⟩ E H (.int .u64 ((i + j) % 18446744073709551616 : Nat)) :=
  v_int hx hy fun w => by simp [binOp, Op.intArith, IntKind.wrap, IntKind.bits, IntKind.signed]
theorem v_addZ {i j : Int} (hx : ev E x = some (.int .i64 i)) (hy : ev E y = some (.int .i64 j)) (h : -9223372036854775808 ≤ i + j ∧ i + j < 9223372036854775808) :
    Val P B n ⟨d, .binOp .add T x y T', ty, pos, af, g⟩ E H (.int .i64 (i + j)) :=
  v_int hx hy fun w => by simp [binOp, Op.intArith]; exact IntWalk.i64_in _ (by omega)
theorem v_subI {i j : Nat} (hx : ev E x = some (.int .i64 i)) (hy : ev E y = some (.int .i64 j)) (h : j ≤ i ∧ i < 9223372036854775808) :
    Val P B n ⟨d, .binOp .sub T x y T', ty, pos, af, g⟩ E H (.int .i64 (i - j : Nat)) :=
  v_int hx hy fun w => by
    simp only [binOp, Op.intArith]
    rw [show ((i - j : Nat) : Int) = (i : Int) - j by omega, IntWalk.i64_in _ (by omega)]; rfl
theorem v_subU {i j : Nat} (hx : ev E x = some (.int .u64 i)) (hy : ev E y = some (.int .u64 j)) (h : j ≤ i ∧ i < 18446744073709551616) :
    Val P B n ⟨d, .binOp .sub T x y T', ty, pos, af, g⟩ E H (.int .u64 (i - j : Nat)) :=
  v_int hx hy fun w => by
    simp only [binOp, Op.intArith]
    rw [show ((i - j : Nat) : Int) = (i : Int) - j by omega, IntWalk.u64_in _ (by omega)]; rfl
theorem v_subZ {i j : Int} (hx : ev E x = some (.int .i64 i)) (hy : ev E y = some (.int .i64 j)) (h : -9223372036854775808 ≤ i - j ∧ i - j < 9223372036854775808) :
    Val P B n ⟨d, .binOp .sub T x y T', ty, pos, af, g⟩ E H (.int .i64 (i - j)) :=
  v_int hx hy fun w => by simp [binOp, Op.intArith]; exact IntWalk.i64_in _ (by omega)
theorem v_mulI {i j : Nat} (hx : ev E x = some (.int .i64 i)) (hy : ev E y = some (.int .i64 j)) (h : i * j < 9223372036854775808) :
    Val P B n ⟨d, .binOp .mul T x y T', ty, pos, af, g⟩ E H (.int .i64 (i * j : Nat)) :=
  v_int hx hy fun w => by simp [binOp, Op.intArith]; exact IntWalk.i64_in _ (by rw [← Int.natCast_mul]; omega)
theorem v_mulW {i j : Nat} (hx : ev E x = some (.int .u64 i)) (hy : ev E y = some (.int .u64 j)) :
    Val P B n ⟨d, .binOp .mul T x y T', ty, pos, af, g⟩ E H (.int .u64 ((i * j) % 18446744073709551616 : Nat)) :=
  v_int hx hy fun w => by simp [binOp, Op.intArith, IntKind.wrap, IntKind.bits, IntKind.signed]
theorem v_quo {k : IntKind} {i j : Nat} (hx : ev E x = some (.int k i)) (hy : ev E y = some (.int k j)) (h : j ≠ 0 ∧ k.wrap (i / j : Nat) = (i / j : Nat)) :
    Val P B n ⟨d, .binOp .quo T x y T', ty, pos, af, g⟩ E H (.int k (i / j : Nat)) :=
  v_int hx hy fun w => by
    have h0 : ¬ (j : Int) = 0 := by omega
    have h1 : (i : Int).tdiv j = (i / j : Nat) := rfl
    simp only [binOp, Op.intDiv, ne_eq, not_true_eq_false, h0, h1, if_false, h.2]; rfl
theorem v_rem {k : IntKind} {i j : Nat} (hx : ev E x = some (.int k i)) (hy : ev E y = some (.int k j)) (h : j ≠ 0) :
    Val P B n ⟨d, .binOp .rem T x y T', ty, pos, af, g⟩ E H (.int k (i % j : Nat)) :=
  v_int hx hy fun w => by
    have h0 : ¬ (j : Int) = 0 := by omega
    have h1 : (i : Int).tmod j = (i % j : Nat) := rfl
    simp only [binOp, Op.intDiv, ne_eq, not_true_eq_false, h0, h1, if_false]; rfl
theorem v_shr {k k' : IntKind} {i j : Nat} (hx : ev E x = some (.int k i)) (hy : ev E y = some (.int k' j)) :
    Val P B n ⟨d, .binOp .shr T x y T', ty, pos, af, g⟩ E H (.int k (i / 2 ^ (min j k.bits) : Nat)) := by
  intro a w he _
  have h0 : ¬ (j : Int) < 0 := by omega
  have h1 : (i : Int).fdiv (2 ^ (min j k.bits)) = (i / 2 ^ (min j k.bits) : Nat) := by
    rw [Int.fdiv_eq_ediv_of_nonneg _ (by exact Int.pow_nonneg (by omega))]; simp
  simp only [execOp, he.ev hx, he.ev hy, Sem.run_bind]
  simp [eqGuard, binOp, Op.shift, h0, h1]
theorem v_shl {k k' : IntKind} {i j : Nat} (hx : ev E x = some (.int k i)) (hy : ev E y = some (.int k' j)) (hk : k.signed = false) :
    Val P B n ⟨d, .binOp .shl T x y T', ty, pos, af, g⟩ E H (.int k (i * 2 ^ (min j k.bits) % 2 ^ k.bits : Nat)) := by
  intro a w he _
  have h0 : ¬ (j : Int) < 0 := by omega
  simp only [execOp, he.ev hx, he.ev hy, Sem.run_bind]
  simp [eqGuard, binOp, Op.shift, h0, IntKind.wrap, hk]
theorem bits_back {k : IntKind} {m : Nat} (hk : k.signed = false) (h : m < 2 ^ k.bits) : k.wrap (m : Int) = m := by
  simp only [IntKind.wrap, hk, Bool.false_and, Bool.false_eq_true, if_false]
  have e : ((2 : Int) ^ k.bits) = ((2 ^ k.bits : Nat) : Int) := by simp
  rw [e, ← Int.natCast_emod, Nat.mod_eq_of_lt h]
theorem v_xor {k : IntKind} {i j : Nat} (hx : ev E x = some (.int k i)) (hy : ev E y = some (.int k j)) (hk : k.signed = false) (h : i < 2 ^ k.bits ∧ j < 2 ^ k.bits) :
    Val P B n ⟨d, .binOp .xor T x y T', ty, pos, af, g⟩ E H (.int k (i ^^^ j : Nat)) :=
  v_int hx hy fun w => by
    have e : (BitVec.ofInt k.bits (i : Int) ^^^ BitVec.ofInt k.bits (j : Int)).toNat = i ^^^ j := by
      rw [BitVec.toNat_xor, BitVec.ofInt_natCast, BitVec.ofInt_natCast, BitVec.toNat_ofNat, BitVec.toNat_ofNat, Nat.mod_eq_of_lt h.1, Nat.mod_eq_of_lt h.2]
    simp only [binOp, Op.intBits, ne_eq, not_true_eq_false, if_false, e, bits_back hk (Nat.xor_lt_two_pow h.1 h.2)]; rfl
theorem v_or {k : IntKind} {i j : Nat} (hx : ev E x = some (.int k i)) (hy : ev E y = some (.int k j)) (hk : k.signed = false) (h : i < 2 ^ k.bits ∧ j < 2 ^ k.bits) :
    Val P B n ⟨d, .binOp .or T x y T', ty, pos, af, g⟩ E H (.int k (i ||| j : Nat)) :=
  v_int hx hy fun w => by
    have e : (BitVec.ofInt k.bits (i : Int) ||| BitVec.ofInt k.bits (j : Int)).toNat = i ||| j := by
      rw [BitVec.toNat_or, BitVec.ofInt_natCast, BitVec.ofInt_natCast, BitVec.toNat_ofNat, BitVec.toNat_ofNat, Nat.mod_eq_of_lt h.1, Nat.mod_eq_of_lt h.2]
    simp only [binOp, Op.intBits, ne_eq, not_true_eq_false, if_false, e, bits_back hk (Nat.or_lt_two_pow h.1 h.2)]; rfl
theorem v_and {k : IntKind} {i j : Nat} (hx : ev E x = some (.int k i)) (hy : ev E y = some (.int k j)) (hk : k.signed = false) (h : i < 2 ^ k.bits ∧ j < 2 ^ k.bits) :
    Val P B n ⟨d, .binOp .and T x y T', ty, pos, af, g⟩ E H (.int k (i &&& j : Nat)) :=
  v_int hx hy fun w => by
    have e : (BitVec.ofInt k.bits (i : Int) &&& BitVec.ofInt k.bits (j : Int)).toNat = i &&& j := by
      rw [BitVec.toNat_and, BitVec.ofInt_natCast, BitVec.ofInt_natCast, BitVec.toNat_ofNat, BitVec.toNat_ofNat, Nat.mod_eq_of_lt h.1, Nat.mod_eq_of_lt h.2]
    simp only [binOp, Op.intBits, ne_eq, not_true_eq_false, if_false, e, bits_back hk (Nat.and_lt_two_pow _ h.2)]; rfl
theorem v_lss {k : IntKind} {i j : Nat} (hx : ev E x = some (.int k i)) (hy : ev E y = some (.int k j)) :
    Val P B n ⟨d, .binOp .lss T x y T', ty, pos, af, g⟩ E H (.bool (decide (i < j))) := v_int hx hy fun w => by simp [binOp, Op.intCmp]
theorem v_leq {k : IntKind} {i j : Nat} (hx : ev E x = some (.int k i)) (hy : ev E y = some (.int k j)) :
    Val P B n ⟨d, .binOp .leq T x y T', ty, pos, af, g⟩ E H (.bool (decide (i ≤ j))) := v_int hx hy fun w => by simp [binOp, Op.intCmp]
theorem v_gtr {k : IntKind} {i j : Nat} (hx : ev E x = some (.int k i)) (hy : ev E y = some (.int k j)) :
    Val P B n ⟨d, .binOp .gtr T x y T', ty, pos, af, g⟩ E H (.bool (decide (j < i))) := v_int hx hy fun w => by simp [binOp, Op.intCmp]
theorem v_geq {k : IntKind} {i j : Nat} (hx : ev E x = some (.int k i)) (hy : ev E y = some (.int k j)) :
    Val P B n ⟨d, .binOp .geq T x y T', ty, pos, af, g⟩ E H (.bool (decide (j ≤ i))) := v_int hx hy fun w => by simp [binOp, Op.intCmp]
theorem v_eql {k : IntKind} {i j : Nat} (hx : ev E x = some (.int k i)) (hy : ev E y = some (.int k j)) :
    Val P B n ⟨d, .binOp .eql T x y T', ty, pos, af, g⟩ E H (.bool (decide (i = j))) :=
  v_int hx hy fun w => by
    have : ((i : Int) == (j : Int)) = decide (i = j) := by by_cases h : i = j <;> simp [h]; omega
    simp [binOp, Op.intCmp, this]
theorem v_neq {k : IntKind} {i j : Nat} (hx : ev E x = some (.int k i)) (hy : ev E y = some (.int k j)) :
    Val P B n ⟨d, .binOp .neq T x y T', ty, pos, af, g⟩ E H (.bool (decide (i ≠ j))) :=
  v_int hx hy fun w => by
    have : ((i : Int) != (j : Int)) = decide (i ≠ j) := by by_cases h : i = j <;> simp [h]; omega
    simp [binOp, Op.intCmp, this]
theorem v_lssZ {k : IntKind} {i j : Int} (hx : ev E x = some (.int k i)) (hy : ev E y = some (.int k j)) :
    Val P B n ⟨d, .binOp .lss T x y T', ty, pos, af, g⟩ E H (.bool (decide (i < j))) := v_int hx hy fun w => by simp [binOp, Op.intCmp]
theorem v_leqZ {k : IntKind} {i j : Int} (hx : ev E x = some (.int k i)) (hy : ev E y = some (.int k j)) :
    Val P B n ⟨d, .binOp .leq T x y T', ty, pos, af, g⟩ E H (.bool (decide (i ≤ j))) := v_int hx hy fun w => by simp [binOp, Op.intCmp]
theorem v_gtrZ {k : IntKind} {i j : Int} (hx : ev E x = some (.int k i)) (hy : ev E y = some (.int k j)) :
    Val P B n ⟨d, .binOp .gtr T x y T', ty, pos, af, g⟩ E H (.bool (decide (j < i))) := v_int hx hy fun w => by simp [binOp, Op.intCmp]
theorem v_geqZ {k : IntKind} {i j : Int} (hx : ev E x = some (.int k i)) (hy : ev E y = some (.int k j)) :
    Val P B n ⟨d, .binOp .geq T x y T', ty, pos, af, g⟩ E H (.bool (decide (j ≤ i))) := v_int hx hy fun w => by simp [binOp, Op.intCmp]
theorem v_eqlZ {k : IntKind} {i j : Int} (hx : ev E x = some (.int k i)) (hy : ev E y = some (.int k j)) :
    Val P B n ⟨d, .binOp .eql T x y T', ty, pos, af, g⟩ E H (.bool (decide (i = j))) :=
  v_int hx hy fun w => by
    have : (i == j) = decide (i = j) := by by_cases h : i = j <;> simp [h]
    simp [binOp, Op.intCmp, this]
theorem v_neqZ {k : IntKind} {i j : Int} (hx : ev E x = some (.int k i)) (hy : ev E y = some (.int k j)) :
    Val P B n ⟨d, .binOp .neq T x y T', ty, pos, af, g⟩ E H (.bool (decide (i ≠ j))) :=
  v_int hx hy fun w => by
    have : (i != j) = decide (i ≠ j) := by by_cases h : i = j <;> simp [h]
    simp [binOp, Op.intCmp, this]
theorem fit_u64 {i : Nat} (h : i < 18446744073709551616) : IntKind.u64.wrap (i : Int) = i := IntWalk.u64_in _ (by omega)
theorem fit_i64 {i : Nat} (h : i < 9223372036854775808) : IntKind.i64.wrap (i : Int) = i := IntWalk.i64_in _ (by omega)
theorem fit_u8 {i : Nat} (h : i < 256) : IntKind.u8.wrap (i : Int) = i := IntWalk.u8_in _ (by omega)
theorem v_xorU {i j : Nat} (hx : ev E x = some (.int .u64 i)) (hy : ev E y = some (.int .u64 j)) (h : i < 18446744073709551616 ∧ j < 18446744073709551616) :
    Val P B n ⟨d, .binOp .xor T x y T', ty, pos, af, g⟩ E H (.int .u64 (i ^^^ j : Nat)) := v_xor hx hy rfl h
theorem v_orU {i j : Nat} (hx : ev E x = some (.int .u64 i)) (hy : ev E y = some (.int .u64 j)) (h : i < 18446744073709551616 ∧ j < 18446744073709551616) :
    Val P B n ⟨d, .binOp .or T x y T', ty, pos, af, g⟩ E H (.int .u64 (i ||| j : Nat)) := v_or hx hy rfl h
theorem v_andU {i j : Nat} (hx : ev E x = some (.int .u64 i)) (hy : ev E y = some (.int .u64 j)) (h : i < 18446744073709551616 ∧ j < 18446744073709551616) :
    Val P B n ⟨d, .binOp .and T x y T', ty, pos, af, g⟩ E H (.int .u64 (i &&& j : Nat)) := v_and hx hy rfl h
theorem v_xor8 {i j : Nat} (hx : ev E x = some (.int .u8 i)) (hy : ev E y = some (.int .u8 j)) (h : i < 256 ∧ j < 256) :
    Val P B n ⟨d, .binOp .xor T x y T', ty, pos, af, g⟩ E H (.int .u8 (i ^^^ j : Nat)) := v_xor hx hy rfl h
theorem v_or8 {i j : Nat} (hx : ev E x = some (.int .u8 i)) (hy : ev E y = some (.int .u8 j)) (h : i < 256 ∧ j < 256) :
    Val P B n ⟨d, .binOp .or T x y T', ty, pos, af, g⟩ E H (.int .u8 (i ||| j : Nat)) := v_or hx hy rfl h
theorem v_and8 {i j : Nat} (hx : ev E x = some (.int .u8 i)) (hy : ev E y = some (.int .u8 j)) (h : i < 256 ∧ j < 256) :
    Val P B n ⟨d, .binOp .and T x y T', ty, pos, af, g⟩ E H (.int .u8 (i &&& j : Nat)) := v_and hx hy rfl h
theorem v_shrU {k : IntKind} {i j : Nat} (hx : ev E x = some (.int .u64 i)) (hy : ev E y = some (.int k j)) (h : j ≤ 64) :
    Val P B n ⟨d, .binOp .shr T x y T', ty, pos, af, g⟩ E H (.int .u64 (i / 2 ^ j : Nat)) := by
  have := v_shr (P := P) (B := B) (n := n) (H := H) (d := d) (T := T) (T' := T') (ty := ty) (pos := pos) (af := af) (g := g) hx hy
  rwa [show min j IntKind.u64.bits = j from Nat.min_eq_left h] at this
theorem v_shlU {k : IntKind} {i j : Nat} (hx : ev E x = some (.int .u64 i)) (hy : ev E y = some (.int k j)) (h : j ≤ 64) :
    Val P B n ⟨d, .binOp .shl T x y T', ty, pos, af, g⟩ E H (.int .u64 (i * 2 ^ j % 18446744073709551616 : Nat)) := by
  have := v_shl (P := P) (B := B) (n := n) (H := H) (d := d) (T := T) (T' := T') (ty := ty) (pos := pos) (af := af) (g := g) hx hy rfl
  rwa [show min j IntKind.u64.bits = j from Nat.min_eq_left h] at this
theorem v_shr8 {k : IntKind} {i j : Nat} (hx : ev E x = some (.int .u8 i)) (hy : ev E y = some (.int k j)) (h : j ≤ 8) :
    Val P B n ⟨d, .binOp .shr T x y T', ty, pos, af, g⟩ E H (.int .u8 (i / 2 ^ j : Nat)) := by
  have := v_shr (P := P) (B := B) (n := n) (H := H) (d := d) (T := T) (T' := T') (ty := ty) (pos := pos) (af := af) (g := g) hx hy
  rwa [show min j IntKind.u8.bits = j from Nat.min_eq_left h] at this
theorem v_shlI {k : IntKind} {i j : Nat} (hx : ev E x = some (.int .i64 i)) (hy : ev E y = some (.int k j)) (h : j ≤ 64 ∧ i * 2 ^ j < 9223372036854775808) :
    Val P B n ⟨d, .binOp .shl T x y T', ty, pos, af, g⟩ E H (.int .i64 (i * 2 ^ j : Nat)) := by
  intro a w he _
  have h0 : ¬ (j : Int) < 0 := by omega
  have h1 : min j 64 = j := Nat.min_eq_left h.1
  have h2 : IntKind.i64.wrap ((i : Int) * 2 ^ j) = (i * 2 ^ j : Nat) := by
    rw [show (i : Int) * 2 ^ j = ((i * 2 ^ j : Nat) : Int) by simp]; exact fit_i64 h.2
  simp only [execOp, he.ev hx, he.ev hy, Sem.run_bind]
  simp only [binOp, Op.shift, h0, if_false, IntKind.bits, Int.toNat_natCast, h1, h2]; rfl
theorem v_remI {i j : Nat} (hx : ev E x = some (.int .i64 i)) (hy : ev E y = some (.int .i64 j)) (h : j ≠ 0) :
    Val P B n ⟨d, .binOp .rem T x y T', ty, pos, af, g⟩ E H (.int .i64 (i % j : Nat)) := v_rem hx hy h
theorem v_quoI {i j : Nat} (hx : ev E x = some (.int .i64 i)) (hy : ev E y = some (.int .i64 j)) (h : j ≠ 0 ∧ i < 9223372036854775808) :
    Val P B n ⟨d, .binOp .quo T x y T', ty, pos, af, g⟩ E H (.int .i64 (i / j : Nat)) := v_quo hx hy ⟨h.1, fit_i64 (Nat.lt_of_le_of_lt (Nat.div_le_self _ _) h.2)⟩
theorem v_quoU {i j : Nat} (hx : ev E x = some (.int .u64 i)) (hy : ev E y = some (.int .u64 j)) (h : j ≠ 0 ∧ i < 18446744073709551616) :
    Val P B n ⟨d, .binOp .quo T x y T', ty, pos, af, g⟩ E H (.int .u64 (i / j : Nat)) := v_quo hx hy ⟨h.1, fit_u64 (Nat.lt_of_le_of_lt (Nat.div_le_self _ _) h.2)⟩
theorem v_quo8 {i j : Nat} (hx : ev E x = some (.int .u8 i)) (hy : ev E y = some (.int .u8 j)) (h : j ≠ 0 ∧ i < 256) :
    Val P B n ⟨d, .binOp .quo T x y T', ty, pos, af, g⟩ E H (.int .u8 (i / j : Nat)) := v_quo hx hy ⟨h.1, fit_u8 (Nat.lt_of_le_of_lt (Nat.div_le_self _ _) h.2)⟩
/-- a number of one kind as one of another, where it fits -/
theorem v_conv {k k' : IntKind} {i : Nat} [h1 : TyOf P T (.int k)] [h2 : TyOf P T' (.int k')] (hx : ev E x = some (.int k i)) (h : k'.wrap (i : Int) = i) :
    Val P B n ⟨d, .convert T T' x, ty, pos, af, g⟩ E H (.int k' i) := by
  intro a w he _
  simp [execOp, he.ev hx, convert, run_und h1.get, run_und h2.get, Conv.intToInt, h]
theorem v_convW {k k' : IntKind} {i : Nat} [h1 : TyOf P T (.int k)] [h2 : TyOf P T' (.int k')] (hx : ev E x = some (.int k i)) (hk : k'.signed = false) :
    Val P B n ⟨d, .convert T T' x, ty, pos, af, g⟩ E H (.int k' (i % 2 ^ k'.bits : Nat)) := by
  intro a w he _
  simp [execOp, he.ev hx, convert, run_und h1.get, run_und h2.get, Conv.intToInt, IntKind.wrap, hk]
theorem v_convZ {k k' : IntKind} {i j : Int} [h1 : TyOf P T (.int k)] [h2 : TyOf P T' (.int k')] (hx : ev E x = some (.int k i)) (h : k'.wrap i = j) :
    Val P B n ⟨d, .convert T T' x, ty, pos, af, g⟩ E H (.int k' j) := by
  intro a w he _
  simp [execOp, he.ev hx, convert, run_und h1.get, run_und h2.get, Conv.intToInt, h]
theorem v_conv8 {k : IntKind} {i : Nat} [h1 : TyOf P T (.int k)] [h2 : TyOf P T' (.int .u8)] (hx : ev E x = some (.int k i)) :
    Val P B n ⟨d, .convert T T' x, ty, pos, af, g⟩ E H (.int .u8 (i % 256 : Nat)) := v_convW hx rfl
/-! ### addresses, reads -/
theorem v_fieldAddr {f k b o : Nat} [hf : FldC P T f k] (hx : ev E x = some (.pointer (some ⟨b, o, none⟩))) :
    Val P B n ⟨d, .fieldAddr T x f, ty, pos, af, g⟩ E H (.pointer (some ⟨b, o + k, none⟩)) := by
  intro a w he _
  obtain ⟨fs, h1, gd, h2, h3, m, h4, h5⟩ := hf.get
  simp only [execOp, he.ev hx, Instr.fieldAt, Sem.run_bind, run_und h1, Result.andThen_ok, h2, Instr.sureAddr, Sem.run_pure, fieldPlace, h4, h5, if_false, h3]
  by_cases hk : k = 0 <;> simp [Addr.add, hk]
theorem v_load {b i : Nat} {v : Value} {s : Prop} [hT : OneC P T] (hx : ev E x = some (.pointer (some ⟨b, i, none⟩))) [hr : Rd B H b i v s] (hs : s) :
    Val P B n ⟨d, .load T x, ty, pos, af, g⟩ E H v := by
  intro a w he hw
  simp [execOp, he.ev hx, Instr.loadAt, Instr.sureAddr, loadVar, hT.get, hr.get w hw hs]
theorem v_lenS {p : Option Addr} {k c : Nat} {e : TypeId} [hT : TyOf P T (.slice e)] (hx : ev E x = some (.slice p k c)) :
    Val P B n ⟨d, .call ⟨.builtin .len, #[x], #[T]⟩, ty, pos, af, g⟩ E H (.int .i64 k) := by
  intro a w he _
  simp [execOp, he.ev hx, resolve, invoke, builtin, Builtin.len_, run_und hT.get, goInt]
theorem v_lenStr {s : ByteArray} [hT : TyOf P T .string] (hx : ev E x = some (.string s)) :
    Val P B n ⟨d, .call ⟨.builtin .len, #[x], #[T]⟩, ty, pos, af, g⟩ E H (.int .i64 s.size) := by
  intro a w he _
  simp [execOp, he.ev hx, resolve, invoke, builtin, Builtin.len_, run_und hT.get, goInt]
theorem v_cap {p : Option Addr} {k c : Nat} {e : TypeId} [hT : TyOf P T (.slice e)] (hx : ev E x = some (.slice p k c)) :
    Val P B n ⟨d, .call ⟨.builtin .cap, #[x], #[T]⟩, ty, pos, af, g⟩ E H (.int .i64 c) := by
  intro a w he _
  simp [execOp, he.ev hx, resolve, invoke, builtin, Builtin.cap_, run_und hT.get, goInt]
theorem v_indexAddrS {b o k c i sz : Nat} {e : TypeId} {ik : IntKind} [hT : TyOf P T (.slice e)] [hz : SzOf P e sz] (hx : ev E x = some (.slice (some ⟨b, o, none⟩) k c))
    (hy : ev E y = some (.int ik i)) (h : i < k) : Val P B n ⟨d, .indexAddr T x y, ty, pos, af, g⟩ E H (.pointer (some ⟨b, o + i * sz, none⟩)) := by
  intro a w he _
  simp only [execOp, he.ev hx, he.ev hy, Instr.indexAt, asIntOf, Sem.run_bind, Sem.run_pure, Result.andThen_ok, run_und hT.get]
  have h0 : (0 : Int) ≤ i ∧ (i : Int) < k := by omega
  simp only [h0, and_self, if_true, Sem.run_bind, hz.get, Result.andThen_ok, Sem.run_pure, Int.toNat_natCast]
  by_cases hk : i * sz = 0 <;> simp [Addr.add, hk]
theorem v_indexAddrA {b o len i sz : Nat} {e : TypeId} {ik : IntKind} [hT : TyOf P T (.array len e)] [hz : SzOf P e sz] (hx : ev E x = some (.pointer (some ⟨b, o, none⟩)))
    (hy : ev E y = some (.int ik i)) (h : i < len) : Val P B n ⟨d, .indexAddr T x y, ty, pos, af, g⟩ E H (.pointer (some ⟨b, o + i * sz, none⟩)) := by
  intro a w he _
  simp only [execOp, he.ev hx, he.ev hy, Instr.indexAt, asIntOf, Sem.run_bind, Sem.run_pure, Result.andThen_ok, run_und hT.get, Instr.sureAddr]
  have h0 : (0 : Int) ≤ i ∧ (i : Int) < len := by omega
  simp only [h0, and_self, if_true, Sem.run_bind, hz.get, Result.andThen_ok, Sem.run_pure, Int.toNat_natCast]
  by_cases hk : i * sz = 0 <;> simp [Addr.add, hk]
theorem v_indexAddrAK {b o len i sz q : Nat} {e : TypeId} {ik : IntKind} [hT : TyOf P T (.array len e)] [hz : SzOf P e sz] (hx : ev E x = some (.pointer (some ⟨b, o, none⟩)))
    (hy : ev E y = some (.int ik i)) (h : i < len) (hq : i * sz = q) : Val P B n ⟨d, .indexAddr T x y, ty, pos, af, g⟩ E H (.pointer (some ⟨b, o + q, none⟩)) := hq ▸ v_indexAddrA hx hy h
theorem v_indexAddrSK {b o k c i sz q : Nat} {e : TypeId} {ik : IntKind} [hT : TyOf P T (.slice e)] [hz : SzOf P e sz] (hx : ev E x = some (.slice (some ⟨b, o, none⟩) k c))
    (hy : ev E y = some (.int ik i)) (h : i < k) (hq : i * sz = q) : Val P B n ⟨d, .indexAddr T x y, ty, pos, af, g⟩ E H (.pointer (some ⟨b, o + q, none⟩)) := hq ▸ v_indexAddrS hx hy h
end
end Go.Proofs.YtgfdlpcdjklcoaaDoor
