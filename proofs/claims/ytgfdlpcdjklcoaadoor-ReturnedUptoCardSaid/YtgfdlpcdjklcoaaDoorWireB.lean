/- Bytes of numbers; rules for rows of records that are only read; no condition. -/
import Derived.Test.YtgfdlpcdjklcoaaDoorFrm
import Derived.Test.YtgfdlpcdjklcoaaDoorFacts
namespace Go.Proofs.YtgfdlpcdjklcoaaDoor
open Go Go.RowKit
set_option linter.unusedVariables false
set_option maxRecDepth 20000
theorem top64 : ∀ a, a < 64 → a ||| 64 = a + 64 := by decide
theorem top128 : ∀ a, a < 64 → a ||| 128 = a + 128 := by decide
theorem top192 : ∀ a, a < 64 → a ||| 192 = a + 192 := by decide
theorem u8N (k : Nat) : u8 (UInt8.ofNat k) = .int .u8 (k % 256 : Nat) := by rw [u8, UInt8.toNat_ofNat']
theorem flat8 (xs : List UInt8) : flat xs = xs.map u8 := by
  induction xs with
  | nil => rfl
  | cons x xs ih => show [u8 x] ++ flat xs = _; rw [ih]; rfl
theorem vint1 {n : Nat} (h : n < 64) : flat (vint n) = [.int .u8 (n % 256 : Nat)] := by
  rw [vint, if_pos h, flat8]; simp only [List.map_cons, List.map_nil, u8N]
theorem vint2 {n : Nat} (h : ¬ n < 64) (h2 : n < 16384) : flat (vint n) = [.int .u8 ((n / 2 ^ 8 % 256 ||| 64 : Nat)), .int .u8 (n % 256 : Nat)] := by
  rw [vint, if_neg h, if_pos h2, flat8]; simp only [List.map_cons, List.map_nil, u8N]
  rw [show n / 2 ^ 8 % 256 = n / 256 by omega, top64 _ (by omega), show (n / 256 + 64) % 256 = n / 256 + 64 by omega]
theorem vint4 {n : Nat} (h : ¬ n < 64) (h2 : ¬ n < 16384) (h3 : n < 1073741824) : flat (vint n) = [.int .u8 ((n / 2 ^ 24 % 256 ||| 128 : Nat)), .int .u8 (n / 2 ^ 16 % 256 : Nat), .int .u8 (n / 2 ^ 8 % 256 : Nat), .int .u8 (n % 256 : Nat)] := by
  rw [vint, if_neg h, if_neg h2, if_pos h3, flat8]; simp only [List.map_cons, List.map_nil, u8N]
  rw [show n / 2 ^ 24 % 256 = n / 16777216 by omega, top128 _ (by omega), show (n / 16777216 + 128) % 256 = n / 16777216 + 128 by omega]
theorem vint8 {n : Nat} (h : ¬ n < 64) (h2 : ¬ n < 16384) (h3 : ¬ n < 1073741824) (h4 : n ≤ 4611686018427387903) : flat (vint n) = [.int .u8 ((n / 2 ^ 56 % 256 ||| 192 : Nat)), .int .u8 (n / 2 ^ 48 % 256 : Nat), .int .u8 (n / 2 ^ 40 % 256 : Nat), .int .u8 (n / 2 ^ 32 % 256 : Nat),
    .int .u8 (n / 2 ^ 24 % 256 : Nat), .int .u8 (n / 2 ^ 16 % 256 : Nat), .int .u8 (n / 2 ^ 8 % 256 : Nat), .int .u8 (n % 256 : Nat)] := by
  rw [vint, if_neg h, if_neg h2, if_neg h3, flat8]; simp only [List.map_cons, List.map_nil, u8N]
  rw [show n / 2 ^ 56 % 256 = n / 72057594037927936 by omega, top192 _ (by omega), show (n / 72057594037927936 + 192) % 256 = n / 72057594037927936 + 192 by omega]
/-- a row of words -/
structure W64 where
  n : Nat
@[reducible] instance : Lay W64 := ⟨1, fun x => [uN x.n], ⟨0⟩, fun _ => rfl, fun _ v h => by rw [List.mem_singleton.1 h]; rfl⟩
section
variable {P : Program} {B : World} {n : Nat} {E : Env} {D : Dfr} {H : HP} {d : Option Tmp} {T T' ty : TypeId} {pos : String} {af : Array Edge} {g : Option (Nat × Bool)} {x y z : Operand}
/-- one record of a row that is read -/
theorem v_loadE {α : Type} [Lay α] {b o i : Nat} {xs : List α} [hT : AggC P T (Lay.sz α)] (hx : ev E x = some (.pointer (some ⟨b, o + i * Lay.sz α, none⟩))) (hr : RdA B H b o xs) (hi : i < xs.length) :
    Val P B n ⟨d, .load T x, ty, pos, af, g⟩ E H (.agg (Lay.enc (xs.getD i Lay.dflt)).toArray) := by
  intro a w he hw
  have h1 : (loadCells ⟨b, o + i * Lay.sz α, none⟩ (Lay.enc (xs.getD i Lay.dflt)).length).run P w = .ok (Lay.enc (xs.getD i Lay.dflt)).toArray w := by
    refine run_loadCells_list w ⟨b, o + i * Lay.sz α, none⟩ _ fun j v e => ?_
    have := hr.get i j v e hi w hw
    by_cases hj : j = 0
    · subst hj; simpa [Addr.add] using this
    · simpa [Addr.add, hj] using this
  rw [Lay.len] at h1
  simp [execOp, he.ev hx, Instr.loadAt, Instr.sureAddr, loadVar, hT.get, hT.size, h1]
/-- a field of a record of a row that is read -/
theorem v_loadF {α : Type} [Lay α] {b o i f : Nat} {xs : List α} {v : Value} [hT : OneC P T] (hx : ev E x = some (.pointer (some ⟨b, o + i * Lay.sz α + f, none⟩))) (hr : RdA B H b o xs) (hv : (Lay.enc (xs.getD i Lay.dflt))[f]? = some v) (hi : i < xs.length) :
    Val P B n ⟨d, .load T x, ty, pos, af, g⟩ E H v := by
  intro a w he hw
  simp [execOp, he.ev hx, Instr.loadAt, Instr.sureAddr, loadVar, hT.get, hr.get i f v hv hi w hw]
theorem RdA.one {α : Type} [Lay α] {b o : Nat} (a : α) : RdA B (HP.pts b o (Lay.enc a)) b o [a] := by
  have h : RdA B (arr b o [a] []) b o [a] := inferInstance
  have e : arr b o [a] [] = HP.pts b o (Lay.enc a) := by simp [arr, flat]
  rwa [e] at h
/-- an append of a text's bytes -/
theorem e_appendStr {R : HP} {sT xT e by_ : Nat} {b o c : Nat} {p : Option Addr} {xs : List UInt8} {s : List Value} {zv : Value} {str : ByteArray}
    [hT : TyOf P sT (.slice e)] [hT2 : TyOf P xT .string] [hz : SzOf P e 1] [hi : InfoOf P e by_] [h0 : ZeroOf P e zv]
    (hx : ev E x = some (.slice p xs.length c)) (hs : Sl p b o xs.length c) (hc : xs.length * 1 + s.length = c * 1)
    (hy : ev E y = some (.string str)) (hzc : zv.cells.size = 1)
    (hb : (xs.length + str.size) * by_ ≤ 140737488355328) (hby : 0 < by_) :
    Eff P B n ⟨d, .call ⟨.builtin .append, #[x, y], #[sT, xT]⟩, ty, pos, af, g⟩ E D (arr b o xs s * R) (fun v H' => IsSl R (xs ++ str.data.toList) v H') := by
  intro a w h1 _ h3 K Q hk
  have hl : str.data.toList.length = str.size := by rw [Array.length_toList]; rfl
  have hf : ∀ w', Sat B (arr b o xs s * R) w' → (Builtin.firstCells (Lay.sz UInt8) str.data.toList.length (.string str)).run P w' = .ok (flat str.data.toList).toArray w' := by
    intro w' _
    have e1 : (str.extract 0 str.data.toList.length).data = str.data := by
      rw [hl]
      have : str.extract 0 str.size = str := ByteArray.extract_zero_size
      rw [this]
    simp only [Builtin.firstCells, e1, flat8, Sem.run_pure]
    congr 1
    apply Array.toList_inj.1
    rw [Array.toList_map]
  obtain ⟨v, w', hrun, H', hH, hw'⟩ := append_run (P := P) (B := B) (R := R) (b := b) (o := o) (p := p) (c := c) (xs := xs) (ys := str.data.toList) (s := s) (sT := sT) (xT := xT) (ats := #[sT, xT]) (e := e) (by_ := by_) (ty := ty)
    (x := .string str) (w := w) (z := zv) hT.get rfl rfl (fun k h => by rw [hT2.get] at h; cases h) ⟨_, hT2.get⟩ hz.get hi.get h0.get hzc hs hc (by rw [hl]; rfl)
    (fun w2 hw2 => hf w2 hw2) (by rw [hl]; exact hb) hby h3
  have hrun2 : (execOp a.eval ⟨d, .call ⟨.builtin .append, #[x, y], #[sT, xT]⟩, ty, pos, af, g⟩).run P w = .ok (.value v) w' := by
    simp [execOp, resolve, h1.ev hx, h1.ev hy, invoke, builtin, hrun]
  simp only [Oper.wp, hrun2, Oper.upon]
  exact hk v H' w' hH hw'
/-- a range of a row that is read -/
theorem v_loadRg {b o i : Nat} {xs : List Rng} [hT : AggC P T 2] (hx : ev E x = some (.pointer (some ⟨b, o + i * 2, none⟩))) (hr : RdA B H b o xs) (hi : i < xs.length) :
    Val P B n ⟨d, .load T x, ty, pos, af, g⟩ E H (.agg #[uN (rg xs i).lo, uN (rg xs i).hi]) := v_loadE (hT := hT) hx hr hi
theorem v_loadLo {b o i : Nat} {xs : List Rng} [hT : OneC P T] (hx : ev E x = some (.pointer (some ⟨b, o + i * 2 + 0, none⟩))) (hr : RdA B H b o xs) (hi : i < xs.length) :
    Val P B n ⟨d, .load T x, ty, pos, af, g⟩ E H (uN (rg xs i).lo) := v_loadF (f := 0) hx hr rfl hi
theorem v_loadHi {b o i : Nat} {xs : List Rng} [hT : OneC P T] (hx : ev E x = some (.pointer (some ⟨b, o + i * 2 + 1, none⟩))) (hr : RdA B H b o xs) (hi : i < xs.length) :
    Val P B n ⟨d, .load T x, ty, pos, af, g⟩ E H (uN (rg xs i).hi) := v_loadF (f := 1) hx hr rfl hi
theorem v_indexAddrRe {p : Option Addr} {b o k c i sz q : Nat} {e : TypeId} {ik : IntKind} [hT : TyOf P T (.slice e)] [hz : SzOf P e sz] (hx : ev E x = some (.slice p k c))
    (hy : ev E y = some (.int ik i)) (hs : Sl p b o k c) (h : i < k) (hq : o + i * sz = q) : Val P B n ⟨d, .indexAddr T x y, ty, pos, af, g⟩ E H (.pointer (some ⟨b, q, none⟩)) := hq ▸ v_indexAddrR hx hy hs h
theorem enc_step (pre : List UInt8) (rs : List Rng) (i : Nat) : pre ++ encRs rs i ++ vint ((rg rs i).lo - (rg rs (i + 1)).hi - 2) ++ vint ((rg rs (i + 1)).hi - (rg rs (i + 1)).lo) = pre ++ encRs rs (i + 1) := by
  simp only [encRs, List.append_assoc]
theorem encRs_length (rs : List Rng) : ∀ i, (encRs rs i).length ≤ 16 * i
  | 0 => by simp [encRs]
  | i + 1 => by
    have := encRs_length rs i
    have h1 := vint_length ((rg rs i).lo - (rg rs (i + 1)).hi - 2)
    have h2 := vint_length ((rg rs (i + 1)).hi - (rg rs (i + 1)).lo)
    simp only [encRs, List.length_append]; omega
theorem v_loadW {b o i : Nat} {xs : List W64} [hT : OneC P T] (hx : ev E x = some (.pointer (some ⟨b, o + i * 1, none⟩))) (hr : RdA B H b o xs) (hi : i < xs.length) :
    Val P B n ⟨d, .load T x, ty, pos, af, g⟩ E H (uN (xs.getD i ⟨0⟩).n) := v_loadF (f := 0) hx hr rfl hi
end
end Go.Proofs.YtgfdlpcdjklcoaaDoor
