/- Frames written and read again, in plain Lean: the same; no condition. -/
import Derived.Test.YtgfdlpcdjklcoaaDoorWire
namespace Go.Proofs.YtgfdlpcdjklcoaaDoor
open Go Go.RowKit
set_option linter.unusedVariables false
theorem bAt_drop {xs ys : List UInt8} {a : Nat} (h : xs.drop a = ys) (i : Nat) : bAt xs (a + i) = (ys.getD i 0).toNat := by
  subst h
  unfold bAt
  simp only [List.getD, List.getElem?_drop]
theorem len_drop {xs ys : List UInt8} {a : Nat} (h : xs.drop a = ys) (h0 : 0 < ys.length) : a + ys.length = xs.length := by
  subst h
  rw [List.length_drop] at h0 ⊢
  omega
theorem drop_app {xs ys r : List UInt8} {a : Nat} (h : xs.drop a = ys ++ r) : xs.drop (a + ys.length) = r := by
  rw [← List.drop_drop, h, List.drop_left]
theorem vint_pos (n : Nat) : 0 < (vint n).length := by
  unfold vint
  repeat' split
  all_goals simp
theorem rdN_vint {xs r : List UInt8} {a n : Nat} (hn : n ≤ 4611686018427387903) (h : xs.drop a = vint n ++ r) : rdN xs a = some (n, a + (vint n).length) := by
  have hb := bAt_drop h
  have hl : a + (vint n ++ r).length = xs.length := len_drop h (by have := vint_pos n; rw [List.length_append]; omega)
  rw [List.length_append] at hl
  have b0 := hb 0
  rw [Nat.add_zero] at b0
  unfold vint at hb b0 hl ⊢
  split at hl
  · rename_i h1
    rw [if_pos h1] at b0 ⊢
    simp at b0 hl ⊢
    have e : bAt xs a = n := by omega
    have es : szAt xs a = 1 := by unfold szAt; rw [e, show n / 64 = 0 by omega]
    unfold rdN
    rw [es, if_pos ⟨by omega, by omega⟩]
    simp [numAt, e]; omega
  · rename_i h1
    rw [if_neg h1] at b0 hb ⊢
    split at hl
    · rename_i h2
      rw [if_pos h2] at b0 hb ⊢
      have b1 := hb 1
      simp at b0 b1 hl ⊢
      have e : bAt xs a = n / 256 + 64 := by omega
      have es : szAt xs a = 2 := by unfold szAt; rw [e, show (n / 256 + 64) / 64 = 1 by omega]
      unfold rdN
      rw [es, if_pos ⟨by omega, by omega⟩]
      simp [numAt, e, b1]; omega
    · rename_i h2
      rw [if_neg h2] at b0 hb ⊢
      split at hl
      · rename_i h3
        rw [if_pos h3] at b0 hb ⊢
        have b1 := hb 1
        have b2 := hb 2
        have b3 := hb 3
        simp at b0 b1 b2 b3 hl ⊢
        have e : bAt xs a = n / 16777216 + 128 := by omega
        have es : szAt xs a = 4 := by unfold szAt; rw [e, show (n / 16777216 + 128) / 64 = 2 by omega]
        unfold rdN
        rw [es, if_pos ⟨by omega, by omega⟩]
        simp [numAt, e, b1, b2, b3]; omega
      · rename_i h3
        rw [if_neg h3] at b0 hb ⊢
        have b1 := hb 1
        have b2 := hb 2
        have b3 := hb 3
        have b4 := hb 4
        have b5 := hb 5
        have b6 := hb 6
        have b7 := hb 7
        simp at b0 b1 b2 b3 b4 b5 b6 b7 hl ⊢
        have e : bAt xs a = n / 72057594037927936 + 192 := by omega
        have es : szAt xs a = 8 := by unfold szAt; rw [e, show (n / 72057594037927936 + 192) / 64 = 3 by omega]
        unfold rdN
        rw [es, if_pos ⟨by omega, by omega⟩]
        simp [numAt, e, b1, b2, b3, b4, b5, b6, b7]; omega
theorem rdS_vint {xs r : List UInt8} {a n : Nat} (hn : n < 4) (h : xs.drop a = vint n ++ r) : rdS xs a = some (n, a + (vint n).length) := by
  unfold rdS
  rw [rdN_vint (by omega) h]
  simp [hn]
theorem rdT_vint {xs ds r : List UInt8} {a : Nat} (hn : ds.length ≤ 4611686018427387903) (h : xs.drop a = vint ds.length ++ (ds ++ r)) : rdT xs a = some (ds, a + (vint ds.length).length + ds.length) := by
  unfold rdT
  rw [rdN_vint hn h]
  have h2 := drop_app h
  have h3 : xs.length - (a + (vint ds.length).length) = (ds ++ r).length := by rw [← h2, List.length_drop]
  rw [List.length_append] at h3
  simp only []
  rw [if_pos (by omega), h2, List.take_left' rfl]
/-- ranges from a place on, so many -/
def fwd (rs : List Rng) : Nat → Nat → List UInt8
  | _, 0 => []
  | j, n + 1 => vint ((rg rs j).lo - (rg rs (j + 1)).hi - 2) ++ (vint ((rg rs (j + 1)).hi - (rg rs (j + 1)).lo) ++ fwd rs (j + 1) n)
theorem encRs_fwd (rs : List Rng) : ∀ n j, encRs rs j ++ fwd rs j n = encRs rs (j + n)
  | 0, j => by simp [fwd]
  | n + 1, j => by
    have := encRs_fwd rs n (j + 1)
    rw [show j + 1 + n = j + (n + 1) by omega] at this
    rw [← this, fwd, encRs]
    simp only [List.append_assoc]
theorem rdR_fwd {xs r : List UInt8} {rs : List Rng} : ∀ (n j a : Nat), (∀ i, i ≤ j + n → okR rs i) → xs.drop a = fwd rs j n ++ r → rdR xs n (rg rs j).lo a = some ((List.range n).map (fun i => rg rs (j + 1 + i)), a + (fwd rs j n).length)
  | 0, j, a, _, _ => by simp [rdR, fwd]
  | n + 1, j, a, hok, h => by
    have h0 := hok j (by omega)
    have h1 := hok (j + 1) (by omega)
    unfold okR at h0 h1
    rw [Nat.add_sub_cancel] at h1
    have h12 : 2 ≤ (rg rs j).lo ∧ (rg rs (j + 1)).hi + 2 ≤ (rg rs j).lo := by
      rcases h1.2.2 with h | h
      · omega
      · exact h
    rw [fwd, List.append_assoc, List.append_assoc] at h
    have e1 := rdN_vint (by omega) h
    have g1 := drop_app h
    have e2 := rdN_vint (by omega) g1
    have g2 := drop_app g1
    have ih := rdR_fwd n (j + 1) _ (fun i hi => hok i (by omega)) g2
    have el : (rg rs j).lo - 2 - ((rg rs j).lo - (rg rs (j + 1)).hi - 2) - ((rg rs (j + 1)).hi - (rg rs (j + 1)).lo) = (rg rs (j + 1)).lo := by omega
    have eh : (rg rs j).lo - 2 - ((rg rs j).lo - (rg rs (j + 1)).hi - 2) = (rg rs (j + 1)).hi := by omega
    rw [rdR, e1]
    simp only []
    rw [e2]
    simp only []
    rw [if_pos (by omega), el, ih, eh]
    simp only [Option.some.injEq, Prod.mk.injEq]
    refine ⟨?_, by rw [fwd, List.length_append, List.length_append]; omega⟩
    rw [List.range_succ_eq_map, List.map_cons, List.map_map]
    refine List.cons_eq_cons.2 ⟨rfl, List.map_congr_left fun i _ => ?_⟩
    simp only [Function.comp]
    rw [show j + 1 + 1 + i = j + 1 + (i + 1) by omega]
theorem rgs_all (rs : List Rng) : (List.range rs.length).map (rg rs) = rs := by
  apply List.ext_getElem (by simp)
  intro i h1 h2
  simp [rg, List.getD, List.getElem?_eq_getElem h2]
theorem rdA_enc {xs r : List UInt8} {rs : List Rng} {a : Nat} (hok : okRs rs) (hl : rs.length ≤ 4611686018427387903)
    (h : xs.drop a = vint (rg rs 0).hi ++ vint (rs.length - 1) ++ vint ((rg rs 0).hi - (rg rs 0).lo) ++ encRs rs (rs.length - 1) ++ r) :
    rdA xs a = some (rs, a + (vint (rg rs 0).hi ++ vint (rs.length - 1) ++ vint ((rg rs 0).hi - (rg rs 0).lo) ++ encRs rs (rs.length - 1)).length) := by
  have hne : 0 < rs.length := List.length_pos_iff.2 hok.1
  have h0 := hok.2 0 hne
  unfold okR at h0
  have hf := encRs_fwd rs (rs.length - 1) 0
  rw [show encRs rs 0 = [] from rfl, List.nil_append, Nat.zero_add] at hf
  rw [← hf] at h ⊢
  rw [List.append_assoc, List.append_assoc, List.append_assoc] at h
  have e1 := rdN_vint (by omega) h
  have g1 := drop_app h
  have e2 := rdN_vint (by omega) g1
  have g2 := drop_app g1
  have e3 := rdN_vint (by omega) g2
  have g3 := drop_app g2
  have e4 := rdR_fwd (rs.length - 1) 0 _ (fun i hi => hok.2 i (by omega)) g3
  have el : (rg rs 0).hi - ((rg rs 0).hi - (rg rs 0).lo) = (rg rs 0).lo := by omega
  unfold rdA
  rw [e1]
  simp only []
  rw [e2]
  simp only []
  rw [e3]
  simp only []
  rw [if_pos (by omega), el, e4]
  simp only [Option.some.injEq, Prod.mk.injEq, List.length_append]
  refine ⟨?_, by omega⟩
  conv => rhs; rw [← rgs_all rs, show rs.length = (rs.length - 1) + 1 by omega]
  rw [List.range_succ_eq_map, List.map_cons, List.map_map]
  refine List.cons_eq_cons.2 ⟨rfl, List.map_congr_left fun i _ => ?_⟩
  simp only [Function.comp]
  rw [show 0 + 1 + i = i + 1 by omega]
/-- a frame's parts that its kind keeps -/
def norm (f : Frm) : Frm :=
  if f.kind = 1 then ⟨1, 0, 0, 0, false, ⟨#[]⟩, []⟩ else if f.kind = 2 then ⟨2, 0, 0, 0, false, ⟨#[]⟩, []⟩
  else if f.kind = 3 then ⟨3, 0, 0, 0, false, ⟨#[]⟩, f.ranges⟩ else if f.kind = 4 then ⟨4, f.stream, f.offset, f.code, false, ⟨#[]⟩, []⟩
  else if f.kind = 5 then ⟨5, f.stream, f.offset, 0, f.fin, f.data, []⟩ else ⟨6, 0, 0, f.code, false, ⟨#[]⟩, []⟩
theorem six {f : Frm} (h : kindOk f.kind) : f.kind = 1 ∨ f.kind = 2 ∨ f.kind = 3 ∨ f.kind = 4 ∨ f.kind = 5 ∨ f.kind = 6 := by unfold kindOk at h; omega
theorem norm_enc {f : Frm} (h : okF f) : encF (norm f) = encF f := by
  rcases six h.2.2.2.2.2 with e | e | e | e | e | e <;> simp [norm, encF, e]
theorem norm_ok {f : Frm} (h : okF f) : okF (norm f) := by
  obtain ⟨h1, h2, h3, h4, ⟨h5, h6⟩, h7⟩ := h
  rcases six h7 with e | e | e | e | e | e
  · simp [norm, e, okF, okK, kindOk]
  · simp [norm, e, okF, okK, kindOk]
  · simp [norm, e, okF, okK, kindOk, h5 e]
  · simp [norm, e, okF, okK, kindOk]; omega
  · have := h6 e
    simp [norm, e, okF, okK, kindOk]; omega
  · simp [norm, e, okF, okK, kindOk]; omega
theorem norm_small (f : Frm) : (norm f).ranges.length ≤ f.ranges.length ∧ (norm f).data.size ≤ f.data.size := by
  have e0 : (⟨#[]⟩ : ByteArray).size = 0 := rfl
  unfold norm
  repeat' split
  all_goals simp [e0]
theorem rdF_enc {xs r : List UInt8} {f : Frm} {a : Nat} (hok : okF f) (hl : f.ranges.length ≤ 4611686018427387903) (h : xs.drop a = encF f ++ r) : rdF xs a = some (norm f, a + (encF f).length) := by
  have hno := norm_ok hok
  suffices hk : rdK xs (kindOf (xs.getD a 0)) (decide (xs.getD a 0 = 9)) (a + 1) = some (norm f, a + (encF f).length) by
    unfold rdF; rw [hk]; simp only []; rw [if_pos hno]
  have hd : ∀ t ys, encF f = t :: ys → xs.getD a 0 = t ∧ xs.drop (a + 1) = ys ++ r := by
    intro t ys e
    rw [e] at h
    constructor
    · have : (xs.drop a).getD 0 0 = t := by rw [h]; rfl
      simpa [List.getD, List.getElem?_drop] using this
    · rw [← List.drop_drop, h]; rfl
  obtain ⟨h1, h2, h3, h4, ⟨h5, h6⟩, h7⟩ := hok
  rcases six h7 with e | e | e | e | e | e
  · have ee : encF f = 0 :: [] := by simp [encF, e]
    obtain ⟨t1, t2⟩ := hd _ _ ee
    rw [t1, ee]
    simp [rdK, kindOf, norm, e]
  · have ee : encF f = 1 :: [] := by simp [encF, e]
    obtain ⟨t1, t2⟩ := hd _ _ ee
    rw [t1, ee]
    simp [rdK, kindOf, norm, e]
  · have ee : encF f = 2 :: (vint (rg f.ranges 0).hi ++ vint (f.ranges.length - 1) ++ vint ((rg f.ranges 0).hi - (rg f.ranges 0).lo) ++ encRs f.ranges (f.ranges.length - 1)) := by simp [encF, e, encA]
    obtain ⟨t1, t2⟩ := hd _ _ ee
    have er := rdA_enc (h5 e) hl t2
    rw [t1, ee, List.length_cons]
    simp only [rdK, kindOf, norm, e]
    simp only [er]
    simp
    omega
  · have ee : encF f = 4 :: (vint f.stream.toNat ++ vint f.code ++ vint f.offset) := by simp [encF, e]
    obtain ⟨t1, t2⟩ := hd _ _ ee
    rw [List.append_assoc, List.append_assoc] at t2
    have e1 := rdS_vint (by omega) t2
    have g1 := drop_app t2
    have e2 := rdN_vint h2 g1
    have g2 := drop_app g1
    have e3 := rdN_vint h1 g2
    rw [t1, ee, List.length_cons, List.length_append, List.length_append]
    simp only [rdK, kindOf, norm, e]
    simp only [e1, e2, e3]
    simp
    omega
  · have hdl : f.data.data.toList.length = f.data.size := by rw [Array.length_toList]; rfl
    have ee : encF f = (bif f.fin then 9 else 8) :: (vint f.stream.toNat ++ vint f.offset ++ vint f.data.size ++ f.data.data.toList) := by simp [encF, e]
    obtain ⟨t1, t2⟩ := hd _ _ ee
    rw [List.append_assoc, List.append_assoc, List.append_assoc, ← hdl] at t2
    have e1 := rdS_vint (by omega) t2
    have g1 := drop_app t2
    have e2 := rdN_vint h1 g1
    have g2 := drop_app g1
    have h6' := h6 e
    have e3 := rdT_vint (by omega) g2
    have hk : kindOf (bif f.fin then 9 else 8) = 5 := by cases f.fin <;> rfl
    have h9 : decide ((bif f.fin then (9 : UInt8) else 8) = 9) = f.fin := by cases f.fin <;> rfl
    rw [t1, ee, hk, h9, List.length_cons, List.length_append, List.length_append, List.length_append]
    simp only [rdK, norm, e]
    simp only [e1, e2, e3]
    simp [bstr]
    omega
  · have ee : encF f = 28 :: vint f.code := by simp [encF, e]
    obtain ⟨t1, t2⟩ := hd _ _ ee
    have e1 := rdN_vint h2 t2
    rw [t1, ee, List.length_cons]
    simp only [rdK, kindOf, norm, e]
    simp only [e1]
    simp
    omega
theorem encF_pos (f : Frm) : 0 < (encF f).length := by
  unfold encF
  repeat' split
  all_goals first | simp | (unfold encA; simp)
theorem decFrom_enc {xs : List UInt8} : ∀ (fs : List Frm) (a : Nat), (∀ f ∈ fs, okF f ∧ f.ranges.length ≤ 4611686018427387903) → xs.drop a = encAll fs → decFrom xs a = .ok (fs.map norm)
  | [], a, _, h => by
    have : xs.length ≤ a := List.drop_eq_nil_iff.1 h
    exact decFrom_end (by omega)
  | f :: fs, a, hok, h => by
    have h' : xs.drop a = encF f ++ encAll fs := h
    have h1 := rdF_enc (hok f (by simp)).1 (hok f (by simp)).2 h'
    have hp := encF_pos f
    have hl := len_drop h' (by rw [List.length_append]; omega)
    rw [List.length_append] at hl
    rw [decFrom_step (by omega) h1, decFrom_enc fs _ (fun g hg => hok g (by simp [hg])) (drop_app h')]
    rfl
theorem dec_enc {fs : List Frm} {ys : List UInt8} (he : encL fs = some ys) (hl : ∀ f ∈ fs, f.ranges.length ≤ 4611686018427387903) : decL ys = .ok (fs.map norm) ∧ encL (fs.map norm) = some ys ∧ encAll (fs.map norm) = encAll fs := by
  unfold encL at he
  split at he
  · rename_i hc
    obtain rfl := Option.some.inj he
    have hall : ∀ f ∈ fs, okF f ∧ f.ranges.length ≤ 4611686018427387903 := fun f hf => ⟨hc.2 f hf, hl f hf⟩
    have hsame : encAll (fs.map norm) = encAll fs := by
      unfold encAll
      rw [List.flatMap_map]
      clear he hall hl
      obtain ⟨-, hc⟩ := hc
      induction fs with
      | nil => rfl
      | cons f fs ih => simp only [List.flatMap_cons]; rw [norm_enc (hc f (by simp)), ih (fun g hg => hc g (by simp [hg]))]
    have hne : encAll fs ≠ [] := by
      cases fs with
      | nil => exact absurd rfl hc.1
      | cons f fs =>
        intro h
        have hp := encF_pos f
        have : (encF f ++ encAll fs).length = 0 := by rw [show encF f ++ encAll fs = encAll (f :: fs) from rfl, h]; rfl
        rw [List.length_append] at this
        omega
    refine ⟨?_, ?_, hsame⟩
    · unfold decL
      rw [if_neg hne]
      exact decFrom_enc fs 0 hall rfl
    · unfold encL
      rw [if_pos ⟨by simpa using hc.1, fun g hg => by
        obtain ⟨f, hf, rfl⟩ := List.mem_map.1 hg
        exact norm_ok (hc.2 f hf)⟩, hsame]
  · cases he
end Go.Proofs.YtgfdlpcdjklcoaaDoor
