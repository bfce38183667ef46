/- A part of the proof: RingQ3. -/
import Derived.Test.YtefpbeklpfihfaaRingQ2
/-! ### The powers of 17, the transform, the law about compressing -/
namespace Go.Ax.TryP

def h17 (j : Nat) : Int := 17 ^ j % 3329
theorem h17_bound (j : Nat) : 0 ≤ h17 j ∧ h17 j < 3329 := by unfold h17; omega
theorem zeta_bound (j : Nat) : 0 ≤ zeta j ∧ zeta j < 3329 := by unfold zeta; omega
theorem h17_succ (j : Nat) : h17 j * 17 % 3329 = h17 (j + 1) := by
  unfold h17
  rw [Int.pow_succ]
  generalize (17 : Int) ^ j = m
  omega
theorem at58 {n : Int} (h : 0 ≤ n ∧ n ≤ 255) : g58 (n, ()) = some (rev8 n.toNat : Int) :=
  Spec_at (ks := p58_ks) (rs := p58_rs) (by simp only [wfAll, Kd.wf, okInt_u8]; exact ⟨h, trivial⟩) trivial

theorem q46 : ∀ x r, g46 x = some r → ∃ N, p46 N x = some r := by
  refine Spec_of (ks := p46_ks) (rs := p46_rs) fun x hw _ => ⟨200, ?_⟩
  unfold p46
  refine (iter_run (s := fun i => (((i + 1 : Nat) : Int), List.replicate 128 0, part h17 (i + 1) (List.replicate 128 0), List.replicate 128 0, ())) (y := (List.replicate 128 0, (List.range 128).map h17, List.replicate 128 0, ())) 127 ?_ ?_ 200 (by omega)).trans ?_
  · intro i hi kn
    have hb := h17_bound i
    have ht := at47 (a := h17 i) (b := 17) (by omega) (by omega)
    have hg : (part h17 (i + 1) (List.replicate 128 0)).getD i 0 = h17 i := part_getD_lt (by omega)
    have e1 : ((i + 1 : Nat) : Int) - 1 = (i : Int) := by omega
    unfold p46_l4_F
    simp (disch := omega) only [if_pos, wrap_i64, e1, Int.toNat_natCast, hg, ht, Option.bind_some, h17_succ]
    rw [part_set' (h := h17) (by simp; omega) rfl]
    rfl
  · intro kn
    unfold p46_l4_F
    simp (disch := omega) only [if_neg]
    rw [part_all (by simp)]
  refine (iter_run (s := fun i => ((i : Int), List.replicate 128 0, (List.range 128).map h17, part zeta i (List.replicate 128 0), ())) (y := (List.replicate 128 0, (List.range 128).map zeta, ())) 128 ?_ ?_ 200 (by omega)).trans ?_
  · intro i hi kn
    have ht := at58 (n := (i : Int)) (by omega)
    obtain ⟨_, hr⟩ := rev8_table i (by omega)
    have hsr : ishr .u8 (rev8 i : Int) 1 = ((rev7 i : Nat) : Int) := by
      unfold ishr rev7
      rw [show min (1 : Int).toNat IntKind.u8.bits = 1 by decide, Int.fdiv_eq_ediv_of_nonneg _ (by decide)]
      omega
    have h7 : rev7 i < 128 := by unfold rev7; omega
    have hg : ((List.range 128).map h17).getD (rev7 i) 0 = h17 (rev7 i) := map_range_getD h7
    unfold p46_l8_F
    simp (disch := omega) only [if_pos, wrap_i64, wrap_u8, Int.toNat_natCast, ht, Option.bind_some, hsr, hg]
    rw [part_set' (h := zeta) (i := i) (a := List.replicate 128 0) (z := h17 (rev7 i)) (by rw [List.length_replicate]; omega) rfl]
    rfl
  · intro kn
    unfold p46_l8_F
    simp (disch := omega) only [if_neg]
    rw [part_all (by simp)]
  · rfl
theorem at46 : g46 () = some ((List.range 128).map zeta) := Spec_at (ks := p46_ks) (rs := p46_rs) trivial trivial

/-! #### The transform -/
theorem poly_getD {h : Nat → Int} {i : Nat} (hi : i < 256) : (poly h).getD i 0 = h i := map_range_getD hi
theorem poly_congr {h h' : Nat → Int} (e : ∀ i, i < 256 → h i = h' i) : poly h = poly h' := List.map_congr_left fun i hi => e i (List.mem_range.1 hi)
theorem poly_set {h h' : Nat → Int} {j : Nat} {v : Int} (hj : h' j = v) (e : ∀ i, i < 256 → i ≠ j → h' i = h i) : (poly h).set j v = poly h' := by
  apply List.ext_getElem?
  intro i
  rw [List.getElem?_set]
  by_cases hij : j = i
  · subst hij
    simp only [if_true]
    by_cases hl : j < 256
    · simp [poly, hl, hj]
    · simp [poly, hl]
  · rw [if_neg hij]
    by_cases hl : i < 256
    · simp [poly, hl, e i hl (Ne.symm hij)]
    · simp [poly, hl]
theorem poly_self {a : List Int} (h : a.length = 256) : poly (fun i => a.getD i 0) = a := by
  apply List.ext_getElem?
  intro i
  by_cases hl : i < 256
  · simp [poly, hl, List.getD_eq_getElem?_getD, List.getElem?_eq_getElem (show i < a.length by omega)]
  · simp [poly, hl, List.getElem?_eq_none (show a.length ≤ i by omega)]

def red (a : List Int) : Prop := a.length = 256 ∧ ∀ i, 0 ≤ a.getD i 0 ∧ a.getD i 0 < 3329
theorem red_fRed (a : List Int) : red (fRed a) := ⟨(fRed_u16 a).1, fRed_lt a⟩
theorem red_poly {h : Nat → Int} (hh : ∀ i, i < 256 → 0 ≤ h i ∧ h i < 3329) : red (poly h) := by
  refine ⟨by simp [poly], fun i => ?_⟩
  by_cases hi : i < 256
  · rw [poly_getD hi]; exact hh i hi
  · rw [List.getD_eq_getElem?_getD, List.getElem?_eq_none (by simp [poly]; omega)]; simp
theorem red.u16 {a : List Int} (h : red a) : u16s 256 a := by
  refine ⟨h.1, fun z hz => ?_⟩
  obtain ⟨i, hi, rfl⟩ := List.getElem_of_mem hz
  have := h.2 i
  rw [List.getD_eq_getElem?_getD, List.getElem?_eq_getElem hi] at this
  simp only [Option.getD_some] at this
  omega

def nval (s : Nat) (a : List Int) (j : Nat) : Int :=
  if j % (2 * s) < s then (a.getD j 0 + zeta (128 / s + j / (2 * s)) * a.getD (j + s) 0 % 3329) % 3329
  else (a.getD (j - s) 0 + 3329 - zeta (128 / s + j / (2 * s)) * a.getD j 0 % 3329) % 3329
theorem nLayer_eq (s : Nat) (a : List Int) : nLayer s a = poly (nval s a) := rfl
theorem nval_bound (s : Nat) (a : List Int) (j : Nat) : 0 ≤ nval s a j ∧ nval s a j < 3329 := by unfold nval; split <;> omega
theorem red_nLayer (s : Nat) (a : List Int) : red (nLayer s a) := by rw [nLayer_eq]; exact red_poly fun i _ => nval_bound s a i

def nDone (s at' r j : Nat) : Prop := j < at' ∨ (at' ≤ j ∧ j < at' + r) ∨ (at' + s ≤ j ∧ j < at' + s + r)
instance (s at' r j : Nat) : Decidable (nDone s at' r j) := by unfold nDone; infer_instance
def nMix (s : Nat) (a : List Int) (at' r j : Nat) : Int := if nDone s at' r j then nval s a j else a.getD j 0

theorem nval_lo {s m b r : Nat} (hm : s * m = 128) (hs : 0 < s) (hr : r < s) (a : List Int) : nval s a (2 * s * b + r) = (a.getD (2 * s * b + r) 0 + zeta (m + b) * a.getD (2 * s * b + r + s) 0 % 3329) % 3329 := by
  have e1 : (2 * s * b + r) % (2 * s) = r := by rw [Nat.mul_add_mod]; exact Nat.mod_eq_of_lt (by omega)
  have e2 : (2 * s * b + r) / (2 * s) = b := by rw [Nat.mul_add_div (by omega), Nat.div_eq_of_lt (by omega), Nat.add_zero]
  have e3 : 128 / s = m := by rw [← hm, Nat.mul_div_cancel_left _ hs]
  unfold nval
  rw [e1, e2, e3, if_pos hr]
theorem nval_hi {s m b r : Nat} (hm : s * m = 128) (hs : 0 < s) (hr : r < s) (a : List Int) : nval s a (2 * s * b + r + s) = (a.getD (2 * s * b + r) 0 + 3329 - zeta (m + b) * a.getD (2 * s * b + r + s) 0 % 3329) % 3329 := by
  have e1 : (2 * s * b + r + s) % (2 * s) = r + s := by rw [Nat.add_assoc, Nat.mul_add_mod]; exact Nat.mod_eq_of_lt (by omega)
  have e2 : (2 * s * b + r + s) / (2 * s) = b := by rw [Nat.add_assoc, Nat.mul_add_div (by omega), Nat.div_eq_of_lt (by omega), Nat.add_zero]
  have e3 : 128 / s = m := by rw [← hm, Nat.mul_div_cancel_left _ hs]
  unfold nval
  rw [e1, e2, e3, if_neg (by omega), Nat.add_sub_cancel]

theorem ntt_block {β : Type} {N s m b : Nat} (hm : s * m = 128) (hs : 0 < s) (hb : b < m) (hm64 : m ≤ 64) (hN : 300 ≤ N) {a : List Int} (ha : red a) (res : List Int) (K : Int × Int × Int × List Int × List Int × List Int × Unit → Option β) :
    iter (p24_l11_F N) N (((m + b : Nat) : Int), (s : Int), ((2 * s * b : Nat) : Int), ((2 * s * b : Nat) : Int), poly (nMix s a (2 * s * b) 0), res, (List.range 128).map zeta, ()) K
      = K (((m + b : Nat) : Int), (s : Int), ((2 * s * b : Nat) : Int), poly (nMix s a (2 * s * (b + 1)) 0), res, (List.range 128).map zeta, ()) := by
  have hs128 : s ≤ 128 := by rw [← hm]; exact Nat.le_mul_of_pos_right _ (by omega)
  have hat : 2 * s * b + 2 * s ≤ 256 := by
    have : s * (b + 1) ≤ s * m := Nat.mul_le_mul_left _ (by omega)
    rw [hm, Nat.mul_add] at this
    rw [Nat.mul_assoc]
    omega
  have hnext : 2 * s * (b + 1) = 2 * s * b + 2 * s := by rw [Nat.mul_add, Nat.mul_one]
  rw [hnext]
  have hk : m + b < 128 := by omega
  have hz := zeta_bound (m + b)
  have hzg : ((List.range 128).map zeta).getD (m + b) 0 = zeta (m + b) := map_range_getD (by omega)
  have hlo := fun r (hr : r < s) => nval_lo (b := b) hm hs hr a
  have hhi := fun r (hr : r < s) => nval_hi (b := b) hm hs hr a
  generalize 2 * s * b = c at *
  generalize m + b = k at *
  refine (iter_run (s := fun r => ((k : Int), (s : Int), (c : Int), ((c + r : Nat) : Int), poly (nMix s a c r), res, (List.range 128).map zeta, ())) (y := ((k : Int), (s : Int), (c : Int), poly (nMix s a (c + 2 * s) 0), res, (List.range 128).map zeta, ())) s ?_ ?_ N (by omega)).trans ?_
  · intro r hr kn
    have h1 := ha.2 (c + r)
    have h2 := ha.2 (c + r + s)
    have g1 : (poly (nMix s a c r)).getD (c + r) 0 = a.getD (c + r) 0 := by rw [poly_getD (by omega), nMix, if_neg (by unfold nDone; omega)]
    have g2 : (poly (nMix s a c r)).getD (c + r + s) 0 = a.getD (c + r + s) 0 := by rw [poly_getD (by omega), nMix, if_neg (by unfold nDone; omega)]
    have ht := at47 (a := zeta k) (b := a.getD (c + r + s) 0) (by omega) (by omega)
    have hl := hlo r hr
    have hh := hhi r hr
    have ec : ((c + r : Nat) : Int) + (s : Int) = ((c + r + s : Nat) : Int) := by omega
    unfold p24_l11_F
    simp (disch := omega) only [if_pos, wrap_i64, ec, Int.toNat_natCast, hzg, g1, g2, ht, Option.bind_some, wrap_u16, tmod_pos]
    rw [← hl, ← hh]
    rw [poly_set (h' := fun j => if j = c + r then nval s a j else nMix s a c r j) (by simp) (fun i _ hi => by simp [hi])]
    rw [poly_set (h' := nMix s a c (r + 1)) ?_ ?_]
    · rfl
    · unfold nMix; rw [if_pos (by unfold nDone; omega)]
    · intro i hi hne
      by_cases h : i = c + r
      · rw [if_pos h, h]; unfold nMix; rw [if_pos (by unfold nDone; omega)]
      · rw [if_neg h]; unfold nMix
        by_cases hd : nDone s c r i
        · rw [if_pos hd, if_pos (by unfold nDone at *; omega)]
        · rw [if_neg hd, if_neg (by unfold nDone at *; omega)]
  · intro kn
    unfold p24_l11_F
    simp (disch := omega) only [if_neg, wrap_i64]
    rw [poly_congr (h' := nMix s a (c + 2 * s) 0)]
    intro i hi
    unfold nMix
    by_cases hd : nDone s c s i
    · rw [if_pos hd, if_pos (by unfold nDone at *; omega)]
    · rw [if_neg hd, if_neg (by unfold nDone at *; omega)]
  · rfl

theorem ntt_layer {β : Type} {N s m : Nat} (hm : s * m = 128) (hs : 0 < s) (hm64 : m ≤ 64) (hN : 300 ≤ N) {a : List Int} (ha : red a) (res : List Int) (K : Int × Int × List Int × List Int × List Int × Unit → Option β) :
    iter (p24_l8_F N) N ((m : Int), (s : Int), 0, a, res, (List.range 128).map zeta, ()) K = K (((2 * m : Nat) : Int), (s : Int), nLayer s a, res, (List.range 128).map zeta, ()) := by
  have hs128 : s ≤ 128 := by rw [← hm]; exact Nat.le_mul_of_pos_right _ (by
    rcases Nat.eq_zero_or_pos m with h | h
    · subst h; simp at hm
    · exact h)
  have hall : 2 * s * m = 256 := by rw [Nat.mul_assoc, hm]
  have hat : ∀ b, b ≤ m → 2 * s * b ≤ 256 := fun b hb => by
    have := Nat.mul_le_mul_left (2 * s) hb
    omega
  have h0 : poly (nMix s a (2 * s * 0) 0) = a := by
    refine (poly_congr fun i hi => ?_).trans (poly_self ha.1)
    unfold nMix
    rw [if_neg (by unfold nDone; omega)]
  refine Eq.trans ?_ (iter_run (F := p24_l8_F N) (s := fun b => (((m + b : Nat) : Int), (s : Int), ((2 * s * b : Nat) : Int), poly (nMix s a (2 * s * b) 0), res, (List.range 128).map zeta, ())) (y := (((2 * m : Nat) : Int), (s : Int), nLayer s a, res, (List.range 128).map zeta, ())) m ?_ ?_ N (by omega))
  · rw [h0]; rfl
  · intro b hb kn
    have h1 := hat (b + 1) (by omega)
    have hnext : 2 * s * (b + 1) = 2 * s * b + 2 * s := by rw [Nat.mul_add, Nat.mul_one]
    have hblock := ntt_block (b := b) hm hs hb hm64 hN ha res (β := β)
    unfold p24_l8_F
    dsimp only
    rw [if_pos (by omega)]
    refine (hblock _).trans ?_
    rw [hnext] at h1 ⊢
    simp (disch := omega) only [wrap_i64]
    congr 1
  · intro kn
    unfold p24_l8_F
    dsimp only
    rw [if_neg (by omega)]
    have : poly (nMix s a (2 * s * m) 0) = nLayer s a := by
      rw [nLayer_eq, hall]
      refine poly_congr fun i hi => ?_
      unfold nMix
      rw [if_pos (by unfold nDone; omega)]
    simp only [this]
    rw [show m + m = 2 * m by omega]

def nStage (a : List Int) : Nat → List Int
  | 0 => fRed a
  | i + 1 => nLayer (128 / 2 ^ i) (nStage a i)
theorem fNtt_eq (a : List Int) : fNtt a = nStage a 7 := by simp only [fNtt, nStage, List.foldl_cons, List.foldl_nil, Nat.reducePow, Nat.reduceDiv]
theorem red_nStage (a : List Int) : ∀ i, red (nStage a i)
  | 0 => red_fRed a
  | _ + 1 => red_nLayer _ _
theorem stage_facts : ∀ i, i < 7 → (128 / 2 ^ i) * 2 ^ i = 128 ∧ 2 ≤ 128 / 2 ^ i ∧ 128 / 2 ^ i ≤ 128 ∧ 128 / 2 ^ i / 2 = 128 / 2 ^ (i + 1) ∧ 2 ^ i ≤ 64 := by decide
theorem q24 : ∀ x r, g24 x = some r → ∃ N, p24 N x = some r := by
  refine Spec_of (ks := p24_ks) (rs := p24_rs) fun x hw _ => ⟨300, ?_⟩
  obtain ⟨(a : List Int), u⟩ := x
  have ha := wf_one.1 hw
  unfold p24
  refine (congrArg (fun o => Option.bind o _) (at37 ha)).trans ?_
  refine (congrArg (fun o => Option.bind o _) at46).trans ?_
  simp only [Option.bind_some]
  refine (iter_run (F := p24_l5_F 300) (s := fun i => (((2 ^ i : Nat) : Int), ((128 / 2 ^ i : Nat) : Int), nStage a i, List.replicate 256 0, (List.range 128).map zeta, ())) (y := (fNtt a, List.replicate 256 0, ())) 7 ?_ ?_ 300 (by omega)).trans ?_
  · intro i hi kn
    obtain ⟨f1, f2, f3, f4, f5⟩ := stage_facts i hi
    unfold p24_l5_F
    dsimp only
    rw [if_pos (by omega)]
    refine (ntt_layer f1 (by omega) f5 (Nat.le_refl _) (red_nStage a i) _ _).trans ?_
    simp (disch := omega) only [tdiv_pos, wrap_i64]
    have e1 : ((128 / 2 ^ i : Nat) : Int) / 2 = ((128 / 2 ^ (i + 1) : Nat) : Int) := by rw [← f4]; omega
    rw [e1, Nat.pow_succ, Nat.mul_comm 2]
    rfl
  · intro kn
    unfold p24_l5_F
    dsimp only
    rw [if_neg (by decide), fNtt_eq]
  · rfl
end Go.Ax.TryP
