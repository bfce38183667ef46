/- A part of the proof: RingQ9. -/
import Derived.Test.YtefpbeklpfihfaaRingQ8
/-! ### There and back; the laws -/
namespace Go.Ax.TryP

theorem lin.trans1 {c d : Int} {x y z : List Int} (h : lin c 0 y y z) (g : lin d 0 x x y) : lin (c * d) 0 x x z := by
  intro i hi
  refine (h i hi).trans ((((cg.refl c).mul (g i hi)).add (cg.refl _)).trans (cg.of_eq ?_))
  grind
theorem nstage_facts : ∀ t, t < 7 → (128 / 2 ^ t) * 2 ^ t = 128 ∧ 0 < 128 / 2 ^ t ∧ 2 * 2 ^ (6 - t) = 128 / 2 ^ t := by decide
theorem red_lin {a b : List Int} (ha : red a) (hb : red b) (h : lin 1 0 a a b) : b = a := by
  rw [← poly_self ha.1, ← poly_self hb.1]
  refine poly_congr fun i hi => ?_
  have := h i hi
  exact cg.eq (this.trans (cg.of_eq (by grind))) (hb.2 i) (ha.2 i)
theorem fRed_red {a : List Int} (h : red a) : fRed a = a := by
  conv => rhs; rw [← poly_self h.1]
  refine poly_congr fun i hi => ?_
  have := h.2 i
  omega
theorem red_fNtt (a : List Int) : red (fNtt a) := by rw [fNtt_eq]; exact red_nStage a 7
theorem red_fInv (a : List Int) : red (fInv a) := red_poly fun i _ => by omega

/-- Back from the transform, k layers. -/
theorem back_stage (a : List Int) : ∀ k, k ≤ 7 → lin (2 ^ k) 0 (nStage a (7 - k)) (nStage a (7 - k)) (iStage (fNtt a) k)
  | 0, _ => by
    rw [iStage, fRed_red (red_fNtt a), fNtt_eq]
    intro i _
    exact cg.of_eq (by grind)
  | k + 1, hk => by
    have ih := back_stage a k (by omega)
    obtain ⟨f1, f2, f3⟩ := nstage_facts (6 - k) (by omega)
    rw [show 6 - (6 - k) = k by omega] at f3
    have e : 7 - k = (6 - k) + 1 := by omega
    have e2 : 7 - (k + 1) = 6 - k := by omega
    rw [e, nStage] at ih
    rw [iStage, e2, f3]
    have h1 := il_lin f1 f2 ih
    have h2 := il_nl (by omega) f1 f2 (nStage a (6 - k))
    have := h1.trans1 h2
    rwa [Int.pow_succ]
theorem fInv_fNtt (a : List Int) : fInv (fNtt a) = fRed a := by
  have h := back_stage a 7 (Nat.le_refl _)
  rw [Nat.sub_self, nStage] at h
  refine red_lin (red_fRed a) (red_fInv _) ?_
  intro i hi
  rw [fInv, poly_getD hi]
  refine (cg.mod _).trans (((h i hi).mul (cg.refl 3303)).trans ⟨127 * (fRed a).getD i 0, by grind⟩)

theorem there_stage (a : List Int) : ∀ k, k ≤ 7 → lin (3303 * 2 ^ k) 0 (iStage a (7 - k)) (iStage a (7 - k)) (nStage (fInv a) k)
  | 0, _ => by
    rw [nStage, fRed_red (red_fInv a)]
    intro i hi
    rw [fInv, poly_getD hi]
    exact (cg.mod _).trans (cg.of_eq (by grind))
  | k + 1, hk => by
    have ih := there_stage a k (by omega)
    obtain ⟨f1, f2, f3⟩ := nstage_facts k (by omega)
    have e : 7 - k = (6 - k) + 1 := by omega
    have e2 : 7 - (k + 1) = 6 - k := by omega
    rw [e, iStage, f3] at ih
    rw [nStage, e2]
    have h1 := nl_lin f1 f2 ih
    have h2 := nl_il (by omega) f1 f2 (iStage a (6 - k))
    have := h1.trans1 h2
    rwa [Int.pow_succ, ← Int.mul_assoc]
theorem fNtt_fInv (a : List Int) : fNtt (fInv a) = fRed a := by
  have h := there_stage a 7 (Nat.le_refl _)
  rw [Nat.sub_self, iStage, ← fNtt_eq] at h
  refine red_lin (red_fRed a) (red_fNtt _) ?_
  intro i hi
  refine (h i hi).trans ⟨127 * (fRed a).getD i 0, by grind⟩

theorem nStage_lin {c d : Int} {x y z : List Int} (h : lin c d (fRed x) (fRed y) (fRed z)) : ∀ k, k ≤ 7 → lin c d (nStage x k) (nStage y k) (nStage z k)
  | 0, _ => h
  | k + 1, hk => by
    obtain ⟨f1, f2, _⟩ := nstage_facts k (by omega)
    exact nl_lin f1 f2 (nStage_lin h k (by omega))
theorem iStage_lin {c d : Int} {x y z : List Int} (h : lin c d (fRed x) (fRed y) (fRed z)) : ∀ k, k ≤ 7 → lin c d (iStage x k) (iStage y k) (iStage z k)
  | 0, _ => h
  | k + 1, hk => by
    obtain ⟨f1, f2, f3⟩ := nstage_facts (6 - k) (by omega)
    rw [show 6 - (6 - k) = k by omega] at f3
    rw [iStage, iStage, iStage, f3]
    exact il_lin f1 f2 (iStage_lin h k (by omega))
theorem red_fAdd (a b : List Int) : red (fAdd a b) := red_poly fun i _ => by omega
theorem red_fSub (a b : List Int) : red (fSub a b) := red_poly fun i _ => by omega
theorem red_fMulN (a b : List Int) : red (fMulN a b) := red_poly fun i _ => by unfold mval; split <;> omega
theorem add_lin (a b : List Int) : lin 1 1 (fRed a) (fRed b) (fRed (fAdd a b)) := by
  intro i hi
  rw [fRed_red (red_fAdd a b), fAdd, poly_getD hi, fRed, poly_getD hi, fRed, poly_getD hi]
  refine (cg.mod _).trans (cg.symm ((((cg.refl 1).mul (cg.mod _)).add ((cg.refl 1).mul (cg.mod _))).trans (cg.of_eq (by grind))))
theorem lin_add {x y z : List Int} (hz : red z) (h : lin 1 1 x y z) : z = fAdd x y := by
  conv => lhs; rw [← poly_self hz.1]
  refine poly_congr fun i hi => ?_
  refine cg.eq ((h i hi).trans (cg.symm ((cg.mod _).trans (cg.of_eq (by grind))))) (hz.2 i) (by omega)
theorem fNtt_add (a b : List Int) : fNtt (fAdd a b) = fAdd (fNtt a) (fNtt b) := by
  refine lin_add (red_fNtt _) ?_
  have := nStage_lin (add_lin a b) 7 (Nat.le_refl _)
  rwa [← fNtt_eq, ← fNtt_eq, ← fNtt_eq] at this
theorem fInv_add (a b : List Int) : fInv (fAdd a b) = fAdd (fInv a) (fInv b) := by
  refine lin_add (red_fInv _) ?_
  intro i hi
  have h := iStage_lin (add_lin a b) 7 (Nat.le_refl _) i hi
  rw [fInv, poly_getD hi, fInv, poly_getD hi, fInv, poly_getD hi]
  refine (cg.mod _).trans ((h.mul (cg.refl 3303)).trans (cg.symm ((((cg.refl 1).mul (cg.mod _)).add ((cg.refl 1).mul (cg.mod _))).trans (cg.of_eq (by grind)))))

/-! #### The product of transforms -/
theorem mv_even {i : Nat} (hi : i < 128) (a b : List Int) : cg ((fMulN a b).getD (2 * i) 0) (a.getD (2 * i) 0 * b.getD (2 * i) 0 + a.getD (2 * i + 1) 0 * b.getD (2 * i + 1) 0 * root i) := by
  rw [fMulN, poly_getD (by omega), mval, if_pos (by omega), show 2 * i / 2 = i by omega]
  exact (cg.mod _).trans (((cg.mod _).mul (cg.mod _)).add ((((cg.mod _)).trans ((cg.mod _).mul (cg.mod _))).mul (cg.refl _)))
theorem mv_odd {i : Nat} (hi : i < 128) (a b : List Int) : cg ((fMulN a b).getD (2 * i + 1) 0) (a.getD (2 * i) 0 * b.getD (2 * i + 1) 0 + a.getD (2 * i + 1) 0 * b.getD (2 * i) 0) := by
  rw [fMulN, poly_getD (by omega), mval, if_neg (by omega), show 2 * i + 1 - 1 = 2 * i by omega]
  exact (cg.mod _).trans (((cg.mod _).mul (cg.mod _)).add ((cg.mod _).mul (cg.mod _)))
theorem pairs_eq {a b : List Int} (ha : red a) (hb : red b) (h : ∀ i, i < 128 → cg (a.getD (2 * i) 0) (b.getD (2 * i) 0) ∧ cg (a.getD (2 * i + 1) 0) (b.getD (2 * i + 1) 0)) : a = b := by
  rw [← poly_self ha.1, ← poly_self hb.1]
  refine poly_congr fun j hj => ?_
  obtain ⟨h1, h2⟩ := h (j / 2) (by omega)
  rcases Nat.mod_two_eq_zero_or_one j with e | e
  · rw [show 2 * (j / 2) = j by omega] at h1
    exact cg.eq h1 (ha.2 j) (hb.2 j)
  · rw [show 2 * (j / 2) + 1 = j by omega] at h2
    exact cg.eq h2 (ha.2 j) (hb.2 j)
theorem fMulN_comm (a b : List Int) : fMulN a b = fMulN b a := by
  refine pairs_eq (red_fMulN _ _) (red_fMulN _ _) fun i hi => ⟨?_, ?_⟩
  · exact (mv_even hi a b).trans ((cg.of_eq (by grind)).trans (mv_even hi b a).symm)
  · exact (mv_odd hi a b).trans ((cg.of_eq (by grind)).trans (mv_odd hi b a).symm)
theorem fMulN_assoc (a b c : List Int) : fMulN (fMulN a b) c = fMulN a (fMulN b c) := by
  refine pairs_eq (red_fMulN _ _) (red_fMulN _ _) fun i hi => ⟨?_, ?_⟩
  · refine (mv_even hi _ c).trans ((((mv_even hi a b).mul (cg.refl _)).add (((mv_odd hi a b).mul (cg.refl _)).mul (cg.refl _))).trans ?_)
    refine cg.symm ((mv_even hi a _).trans ((((cg.refl _).mul (mv_even hi b c)).add (((cg.refl _).mul (mv_odd hi b c)).mul (cg.refl _))).trans (cg.of_eq ?_)))
    grind
  · refine (mv_odd hi _ c).trans ((((mv_even hi a b).mul (cg.refl _)).add ((mv_odd hi a b).mul (cg.refl _))).trans ?_)
    refine cg.symm ((mv_odd hi a _).trans ((((cg.refl _).mul (mv_odd hi b c)).add ((cg.refl _).mul (mv_even hi b c))).trans (cg.of_eq ?_)))
    grind
theorem add_at {i : Nat} (hi : i < 256) (a b : List Int) : cg ((fAdd a b).getD i 0) (a.getD i 0 + b.getD i 0) := by rw [fAdd, poly_getD hi]; exact cg.mod _
theorem sub_at {i : Nat} (hi : i < 256) (a b : List Int) : cg ((fSub a b).getD i 0) (a.getD i 0 - b.getD i 0) := by rw [fSub, poly_getD hi]; exact cg.mod _
theorem red_at {i : Nat} (hi : i < 256) (a : List Int) : cg ((fRed a).getD i 0) (a.getD i 0) := by rw [fRed, poly_getD hi]; exact cg.mod _
theorem fMulN_add (a b c : List Int) : fMulN a (fAdd b c) = fAdd (fMulN a b) (fMulN a c) := by
  refine pairs_eq (red_fMulN _ _) (red_fAdd _ _) fun i hi => ⟨?_, ?_⟩
  · refine (mv_even hi a _).trans ((((cg.refl _).mul (add_at (by omega) b c)).add (((cg.refl _).mul (add_at (by omega) b c)).mul (cg.refl _))).trans ?_)
    refine cg.symm ((add_at (by omega) _ _).trans (((mv_even hi a b).add (mv_even hi a c)).trans (cg.of_eq ?_)))
    grind
  · refine (mv_odd hi a _).trans ((((cg.refl _).mul (add_at (by omega) b c)).add ((cg.refl _).mul (add_at (by omega) b c))).trans ?_)
    refine cg.symm ((add_at (by omega) _ _).trans (((mv_odd hi a b).add (mv_odd hi a c)).trans (cg.of_eq ?_)))
    grind
theorem list_eq {a b : List Int} (ha : red a) (hb : red b) (h : ∀ i, i < 256 → cg (a.getD i 0) (b.getD i 0)) : a = b := by
  rw [← poly_self ha.1, ← poly_self hb.1]
  exact poly_congr fun j hj => cg.eq (h j hj) (ha.2 j) (hb.2 j)

/-! #### The laws -/
theorem fNtt_mul (a b : List Int) : fNtt (fMul a b) = fMulN (fNtt a) (fNtt b) := by
  rw [fMul, fNtt_fInv, fRed_red (red_fMulN _ _)]
theorem fAdd_comm (a b : List Int) : fAdd a b = fAdd b a := poly_congr fun i _ => by rw [Int.add_comm]
theorem fAdd_assoc (a b c : List Int) : fAdd (fAdd a b) c = fAdd a (fAdd b c) := by
  refine list_eq (red_fAdd _ _) (red_fAdd _ _) fun i hi => ?_
  refine (add_at hi _ _).trans (((add_at hi a b).add (cg.refl _)).trans (cg.symm ((add_at hi _ _).trans (((cg.refl _).add (add_at hi b c)).trans (cg.of_eq (by omega))))))
theorem fSub_fAdd (a b : List Int) : fSub (fAdd a b) b = fRed a := by
  refine list_eq (red_fSub _ _) (red_fRed _) fun i hi => ?_
  refine (sub_at hi _ _).trans (((add_at hi a b).sub (cg.refl _)).trans ((cg.of_eq (by omega)).trans (red_at hi a).symm))
theorem fMul_comm (a b : List Int) : fMul a b = fMul b a := by rw [fMul, fMulN_comm, fMul]
theorem fMul_assoc (a b c : List Int) : fMul (fMul a b) c = fMul a (fMul b c) := by
  rw [fMul, fNtt_mul, fMulN_assoc, ← fNtt_mul, ← fMul]
theorem fMul_add (a b c : List Int) : fMul a (fAdd b c) = fAdd (fMul a b) (fMul a c) := by
  rw [fMul, fNtt_add, fMulN_add, fInv_add, ← fMul, ← fMul]

/-- The transform of 1. -/
def oneAt (s : Nat) : List Int := poly fun j => if j % s = 0 then 1 else 0
theorem one_stage : ∀ k, k ≤ 7 → nStage ex1 k = oneAt (256 / 2 ^ k)
  | 0, _ => by decide +kernel
  | k + 1, hk => by
    rw [nStage, one_stage k (by omega)]
    have : (List.range 7).all (fun k => decide (nLayer (128 / 2 ^ k) (oneAt (256 / 2 ^ k)) = oneAt (256 / 2 ^ (k + 1)))) = true := by decide +kernel
    have := List.all_eq_true.1 this k (List.mem_range.2 (by omega))
    exact of_decide_eq_true this
theorem fMul_one (a : List Int) : fMul a ex1 = fRed a := by
  have h1 : fNtt ex1 = oneAt 2 := by rw [fNtt_eq, one_stage 7 (Nat.le_refl _)]
  have h2 : fMulN (fNtt a) (oneAt 2) = fNtt a := by
    refine pairs_eq (red_fMulN _ _) (red_fNtt _) fun i hi => ?_
    have e0 : (oneAt 2).getD (2 * i) 0 = 1 := by rw [oneAt, poly_getD (by omega), if_pos (by omega)]
    have e1 : (oneAt 2).getD (2 * i + 1) 0 = 0 := by rw [oneAt, poly_getD (by omega), if_neg (by omega)]
    have m0 := mv_even hi (fNtt a) (oneAt 2)
    have m1 := mv_odd hi (fNtt a) (oneAt 2)
    rw [e0, e1] at m0 m1
    exact ⟨m0.trans (cg.of_eq (by grind)), m1.trans (cg.of_eq (by grind))⟩
  rw [fMul, h1, h2, fInv_fNtt]
end Go.Ax.TryP
