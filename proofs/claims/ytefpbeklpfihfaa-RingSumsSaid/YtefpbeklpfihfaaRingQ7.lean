/- A part of the proof: RingQ7. -/
import Derived.Test.YtefpbeklpfihfaaRingP3
/-! ### The transform's inverse, sums, products: the printed functions -/
namespace Go.Ax.TryP

theorem ival_bound (s : Nat) (a : List Int) (j : Nat) : 0 ≤ ival s a j ∧ ival s a j < 3329 := by unfold ival; split <;> omega
theorem red_iLayer (s : Nat) (a : List Int) : red (iLayer s a) := red_poly fun i _ => ival_bound s a i
theorem red_iStage (a : List Int) : ∀ i, red (iStage a i)
  | 0 => red_fRed a
  | _ + 1 => red_iLayer _ _
def iMix (s : Nat) (a : List Int) (at' r j : Nat) : Int := if nDone s at' r j then ival s a j else a.getD j 0
theorem ival_lo {s b r : Nat} (hs : 0 < s) (hr : r < s) (a : List Int) : ival s a (2 * s * b + r) = (a.getD (2 * s * b + r) 0 + a.getD (2 * s * b + r + s) 0) % 3329 := by
  have e1 : (2 * s * b + r) % (2 * s) = r := by rw [Nat.mul_add_mod]; exact Nat.mod_eq_of_lt (by omega)
  unfold ival
  rw [e1, if_pos hr]
theorem ival_hi {s m b r : Nat} (hm : s * m = 128) (hs : 0 < s) (hr : r < s) (a : List Int) : ival s a (2 * s * b + r + s) = zeta (2 * m - 1 - b) * ((a.getD (2 * s * b + r + s) 0 + 3329 - a.getD (2 * s * b + r) 0) % 3329) % 3329 := by
  have e1 : (2 * s * b + r + s) % (2 * s) = r + s := by rw [Nat.add_assoc, Nat.mul_add_mod]; exact Nat.mod_eq_of_lt (by omega)
  have e2 : (2 * s * b + r + s) / (2 * s) = b := by rw [Nat.add_assoc, Nat.mul_add_div (by omega), Nat.div_eq_of_lt (by omega), Nat.add_zero]
  have e3 : 128 / s = m := by rw [← hm, Nat.mul_div_cancel_left _ hs]
  unfold ival
  rw [e1, e2, e3, if_neg (by omega), Nat.add_sub_cancel]

theorem inv_block {β : Type} {N s m b : Nat} (hm : s * m = 128) (hs : 0 < s) (hb : b < m) (hm64 : m ≤ 64) (hN : 300 ≤ N) {a : List Int} (ha : red a) (res : List Int) (K : Int × Int × Int × List Int × List Int × List Int × Unit → Option β) :
    iter (p26_l11_F N) N (((2 * m - 1 - b : Nat) : Int), (s : Int), ((2 * s * b : Nat) : Int), ((2 * s * b : Nat) : Int), poly (iMix s a (2 * s * b) 0), res, (List.range 128).map zeta, ()) K
      = K (((2 * m - 1 - b : Nat) : Int), (s : Int), ((2 * s * b : Nat) : Int), poly (iMix s a (2 * s * (b + 1)) 0), res, (List.range 128).map zeta, ()) := by
  have hs128 : s ≤ 128 := by rw [← hm]; exact Nat.le_mul_of_pos_right _ (by omega)
  have hat : 2 * s * b + 2 * s ≤ 256 := by
    have : s * (b + 1) ≤ s * m := Nat.mul_le_mul_left _ (by omega)
    rw [hm, Nat.mul_add] at this
    rw [Nat.mul_assoc]
    omega
  have hnext : 2 * s * (b + 1) = 2 * s * b + 2 * s := by rw [Nat.mul_add, Nat.mul_one]
  rw [hnext]
  have hk : 2 * m - 1 - b < 128 := by omega
  have hz := zeta_bound (2 * m - 1 - b)
  have hzg : ((List.range 128).map zeta).getD (2 * m - 1 - b) 0 = zeta (2 * m - 1 - b) := map_range_getD hk
  have hlo := fun r (hr : r < s) => ival_lo (b := b) hs hr a
  have hhi := fun r (hr : r < s) => ival_hi (b := b) hm hs hr a
  generalize 2 * s * b = c at *
  generalize 2 * m - 1 - b = k at *
  refine (iter_run (F := p26_l11_F N) (s := fun r => ((k : Int), (s : Int), (c : Int), ((c + r : Nat) : Int), poly (iMix s a c r), res, (List.range 128).map zeta, ())) (y := ((k : Int), (s : Int), (c : Int), poly (iMix s a (c + 2 * s) 0), res, (List.range 128).map zeta, ())) s ?_ ?_ N (by omega)).trans ?_
  · intro r hr kn
    have h1 := ha.2 (c + r)
    have h2 := ha.2 (c + r + s)
    have g1 : (poly (iMix s a c r)).getD (c + r) 0 = a.getD (c + r) 0 := by rw [poly_getD (by omega), iMix, if_neg (by unfold nDone; omega)]
    have g2 : (poly (iMix s a c r)).getD (c + r + s) 0 = a.getD (c + r + s) 0 := by rw [poly_getD (by omega), iMix, if_neg (by unfold nDone; omega)]
    have ht := at47 (a := zeta k) (b := (a.getD (c + r + s) 0 + 3329 - a.getD (c + r) 0) % 3329) (by omega) (by omega)
    have hl := hlo r hr
    have hh := hhi r hr
    have ec : ((c + r : Nat) : Int) + (s : Int) = ((c + r + s : Nat) : Int) := by omega
    unfold p26_l11_F
    simp (disch := omega) only [if_pos, wrap_i64, ec, Int.toNat_natCast, hzg, g1, g2, Option.bind_some, wrap_u16, tmod_pos, ht]
    rw [← hl, ← hh]
    rw [poly_set (h' := fun j => if j = c + r then ival s a j else iMix s a c r j) (by simp) (fun i _ hi => by simp [hi])]
    rw [poly_set (h' := iMix s a c (r + 1)) ?_ ?_]
    · rfl
    · unfold iMix; rw [if_pos (by unfold nDone; omega)]
    · intro i hi hne
      by_cases h : i = c + r
      · rw [if_pos h, h]; unfold iMix; rw [if_pos (by unfold nDone; omega)]
      · rw [if_neg h]; unfold iMix
        by_cases hd : nDone s c r i
        · rw [if_pos hd, if_pos (by unfold nDone at *; omega)]
        · rw [if_neg hd, if_neg (by unfold nDone at *; omega)]
  · intro kn
    unfold p26_l11_F
    simp (disch := omega) only [if_neg, wrap_i64]
    rw [poly_congr (h' := iMix s a (c + 2 * s) 0)]
    intro i hi
    unfold iMix
    by_cases hd : nDone s c s i
    · rw [if_pos hd, if_pos (by unfold nDone at *; omega)]
    · rw [if_neg hd, if_neg (by unfold nDone at *; omega)]
  · rfl

theorem inv_layer {β : Type} {N s m : Nat} (hm : s * m = 128) (hs : 0 < s) (hm0 : 0 < m) (hm64 : m ≤ 64) (hN : 300 ≤ N) {a : List Int} (ha : red a) (res : List Int) (K : Int × Int × List Int × List Int × List Int × Unit → Option β) :
    iter (p26_l8_F N) N (((2 * m - 1 : Nat) : Int), (s : Int), 0, a, res, (List.range 128).map zeta, ()) K = K (((m - 1 : Nat) : Int), (s : Int), iLayer s a, res, (List.range 128).map zeta, ()) := by
  have hs128 : s ≤ 128 := by rw [← hm]; exact Nat.le_mul_of_pos_right _ hm0
  have hall : 2 * s * m = 256 := by rw [Nat.mul_assoc, hm]
  have hat : ∀ b, b ≤ m → 2 * s * b ≤ 256 := fun b hb => by
    have := Nat.mul_le_mul_left (2 * s) hb
    omega
  have h0 : poly (iMix s a (2 * s * 0) 0) = a := by
    refine (poly_congr fun i hi => ?_).trans (poly_self ha.1)
    unfold iMix
    rw [if_neg (by unfold nDone; omega)]
  refine Eq.trans ?_ (iter_run (F := p26_l8_F N) (s := fun b => (((2 * m - 1 : Nat) : Int) - (b : Int), (s : Int), ((2 * s * b : Nat) : Int), poly (iMix s a (2 * s * b) 0), res, (List.range 128).map zeta, ())) (y := (((m - 1 : Nat) : Int), (s : Int), iLayer s a, res, (List.range 128).map zeta, ())) m ?_ ?_ N (by omega))
  · rw [h0, Int.natCast_zero, Int.sub_zero]; rfl
  · intro b hb kn
    have h1 := hat (b + 1) (by omega)
    have hnext : 2 * s * (b + 1) = 2 * s * b + 2 * s := by rw [Nat.mul_add, Nat.mul_one]
    have hblock := inv_block (b := b) hm hs hb hm64 hN ha res (β := β)
    have ek : ((2 * m - 1 : Nat) : Int) - (b : Int) = ((2 * m - 1 - b : Nat) : Int) := by omega
    unfold p26_l8_F
    dsimp only
    rw [ek]
    rw [if_pos (by omega)]
    refine (hblock _).trans ?_
    rw [hnext] at h1 ⊢
    simp (disch := omega) only [wrap_i64]
    have ek2 : ((2 * m - 1 - b : Nat) : Int) - 1 = ((2 * m - 1 : Nat) : Int) - ((b + 1 : Nat) : Int) := by omega
    have ea : ((2 * s * b : Nat) : Int) + 2 * (s : Int) = ((2 * s * b + 2 * s : Nat) : Int) := by omega
    rw [ek2, ea]
  · intro kn
    unfold p26_l8_F
    dsimp only
    rw [if_neg (by omega)]
    have : poly (iMix s a (2 * s * m) 0) = iLayer s a := by
      unfold iLayer
      rw [hall]
      refine poly_congr fun i hi => ?_
      unfold iMix
      rw [if_pos (by unfold nDone; omega)]
    rw [this]
    rw [show ((2 * m - 1 : Nat) : Int) - (m : Int) = ((m - 1 : Nat) : Int) by omega]

theorem istage_facts : ∀ i, i < 7 → (2 * 2 ^ i) * (64 / 2 ^ i) = 128 ∧ 0 < 64 / 2 ^ i ∧ 64 / 2 ^ i ≤ 64 ∧ 2 * 2 ^ i ≤ 128 ∧ 128 / 2 ^ i - 1 = 2 * (64 / 2 ^ i) - 1 ∧ 64 / 2 ^ i - 1 = 128 / 2 ^ (i + 1) - 1 := by decide
theorem q26 : ∀ x r, g26 x = some r → ∃ N, p26 N x = some r := by
  refine Spec_of (ks := p26_ks) (rs := p26_rs) fun x hw _ => ⟨300, ?_⟩
  obtain ⟨(a : List Int), u⟩ := x
  have ha := wf_one.1 hw
  unfold p26
  refine (congrArg (fun o => Option.bind o _) (at37 ha)).trans ?_
  refine (congrArg (fun o => Option.bind o _) at46).trans ?_
  simp only [Option.bind_some]
  refine (iter_run (F := p26_l5_F 300) (s := fun i => (((128 / 2 ^ i - 1 : Nat) : Int), ((2 * 2 ^ i : Nat) : Int), iStage a i, List.replicate 256 0, (List.range 128).map zeta, ())) (y := (iStage a 7, List.replicate 256 0, ())) 7 ?_ ?_ 300 (by omega)).trans ?_
  · intro i hi kn
    obtain ⟨f1, f2, f3, f4, f5, f6⟩ := istage_facts i hi
    unfold p26_l5_F
    dsimp only
    rw [if_pos (show ((2 * 2 ^ i : Nat) : Int) ≤ 128 from Int.ofNat_le.2 f4), f5]
    refine (inv_layer f1 (Nat.mul_pos (by decide) (Nat.two_pow_pos i)) f2 f3 (Nat.le_refl _) (red_iStage a i) _ _).trans ?_
    simp (disch := omega) only [wrap_i64]
    rw [f6, Nat.pow_succ]
    have : ((2 * 2 ^ i : Nat) : Int) * 2 = ((2 * (2 ^ i * 2) : Nat) : Int) := by omega
    rw [this]
    rfl
  · intro kn
    unfold p26_l5_F
    dsimp only
    rw [if_neg (by decide)]
  have hr := red_iStage a 7
  refine (iter_run (F := p26_l17_F 300) (s := fun i => ((i : Int), part (fun j => (iStage a 7).getD j 0 * 3303 % 3329) i (iStage a 7), List.replicate 256 0, ())) (y := (fInv a, List.replicate 256 0, ())) 256 ?_ ?_ 300 (by omega)).trans ?_
  · intro i hi kn
    have h0 := hr.2 i
    have ht := at47 (a := (iStage a 7).getD i 0) (b := 3303) (by omega) (by omega)
    unfold p26_l17_F
    simp (disch := omega) only [if_pos, wrap_i64, Int.toNat_natCast, part_getD (Nat.le_refl i), ht, Option.bind_some]
    rw [part_set' (h := fun j => (iStage a 7).getD j 0 * 3303 % 3329) (by rw [hr.1]; omega) rfl]
    rfl
  · intro kn
    unfold p26_l17_F
    dsimp only
    rw [if_neg (by decide), part_all hr.1]
    rfl
  · rfl
theorem at26 {a : List Int} (h : u16s 256 a) : g26 (a, ()) = some (fInv a) := Spec_at (ks := p26_ks) (rs := p26_rs) (wf_one.2 h) trivial
end Go.Ax.TryP
