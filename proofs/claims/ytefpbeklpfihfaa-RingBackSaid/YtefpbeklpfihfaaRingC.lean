/- A part of the proof: RingQ9, RingQ10, RingQ11, RingQ12, RingS4, RingP4, RingQ13. -/
import Derived.Test.YtefpbeklpfihfaaRingB
/-! ### There and back; the laws -/
namespace Go.Ax.TryP

theorem lin.trans1 {c d : Int} {x y z : List Int} (h : lin c 0 y y z) (g : lin d 0 x x y) : lin (c * d) 0 x x z := by
  intro i hi
  refine (h i hi).trans ((((cg.refl c).mul (g i hi)).add (cg.refl _)).trans (cg.of_eq ?_))
  grind
theorem nstage_facts : ∀ t, t < 7 → (128 / 2 ^ t) * 2 ^ t = 128 ∧ 0 < 128 / 2 ^ t ∧ 2 * 2 ^ (6 - t) = 128 / 2 ^ t := by decide
theorem red_lin {a b : List Int} (ha : red a) (hb : red b) (h : lin 1 0 a a b) : b = a := by
  rw [← poly_self ha.1, ← poly_self hb.1]
  refine poly_congr fun i hi => ?_
  have := h i hi
  exact cg.eq (this.trans (cg.of_eq (by grind))) (hb.2 i) (ha.2 i)
theorem fRed_red {a : List Int} (h : red a) : fRed a = a := by
  conv => rhs; rw [← poly_self h.1]
  refine poly_congr fun i hi => ?_
  have := h.2 i
  omega
theorem red_fNtt (a : List Int) : red (fNtt a) := by rw [fNtt_eq]; exact red_nStage a 7
theorem red_fInv (a : List Int) : red (fInv a) := red_poly fun i _ => by omega

/-- Back from the transform, k layers. -/
theorem back_stage (a : List Int) : ∀ k, k ≤ 7 → lin (2 ^ k) 0 (nStage a (7 - k)) (nStage a (7 - k)) (iStage (fNtt a) k)
  | 0, _ => by
    rw [iStage, fRed_red (red_fNtt a), fNtt_eq]
    intro i _
    exact cg.of_eq (by grind)
  | k + 1, hk => by
    have ih := back_stage a k (by omega)
    obtain ⟨f1, f2, f3⟩ := nstage_facts (6 - k) (by omega)
    rw [show 6 - (6 - k) = k by omega] at f3
    have e : 7 - k = (6 - k) + 1 := by omega
    have e2 : 7 - (k + 1) = 6 - k := by omega
    rw [e, nStage] at ih
    rw [iStage, e2, f3]
    have h1 := il_lin f1 f2 ih
    have h2 := il_nl (by omega) f1 f2 (nStage a (6 - k))
    have := h1.trans1 h2
    rwa [Int.pow_succ]
theorem fInv_fNtt (a : List Int) : fInv (fNtt a) = fRed a := by
  have h := back_stage a 7 (Nat.le_refl _)
  rw [Nat.sub_self, nStage] at h
  refine red_lin (red_fRed a) (red_fInv _) ?_
  intro i hi
  rw [fInv, poly_getD hi]
  refine (cg.mod _).trans (((h i hi).mul (cg.refl 3303)).trans ⟨127 * (fRed a).getD i 0, by grind⟩)

theorem there_stage (a : List Int) : ∀ k, k ≤ 7 → lin (3303 * 2 ^ k) 0 (iStage a (7 - k)) (iStage a (7 - k)) (nStage (fInv a) k)
  | 0, _ => by
    rw [nStage, fRed_red (red_fInv a)]
    intro i hi
    rw [fInv, poly_getD hi]
    exact (cg.mod _).trans (cg.of_eq (by grind))
  | k + 1, hk => by
    have ih := there_stage a k (by omega)
    obtain ⟨f1, f2, f3⟩ := nstage_facts k (by omega)
    have e : 7 - k = (6 - k) + 1 := by omega
    have e2 : 7 - (k + 1) = 6 - k := by omega
    rw [e, iStage, f3] at ih
    rw [nStage, e2]
    have h1 := nl_lin f1 f2 ih
    have h2 := nl_il (by omega) f1 f2 (iStage a (6 - k))
    have := h1.trans1 h2
    rwa [Int.pow_succ, ← Int.mul_assoc]
theorem fNtt_fInv (a : List Int) : fNtt (fInv a) = fRed a := by
  have h := there_stage a 7 (Nat.le_refl _)
  rw [Nat.sub_self, iStage, ← fNtt_eq] at h
  refine red_lin (red_fRed a) (red_fNtt _) ?_
  intro i hi
  refine (h i hi).trans ⟨127 * (fRed a).getD i 0, by grind⟩

theorem nStage_lin {c d : Int} {x y z : List Int} (h : lin c d (fRed x) (fRed y) (fRed z)) : ∀ k, k ≤ 7 → lin c d (nStage x k) (nStage y k) (nStage z k)
  | 0, _ => h
  | k + 1, hk => by
    obtain ⟨f1, f2, _⟩ := nstage_facts k (by omega)
    exact nl_lin f1 f2 (nStage_lin h k (by omega))
theorem iStage_lin {c d : Int} {x y z : List Int} (h : lin c d (fRed x) (fRed y) (fRed z)) : ∀ k, k ≤ 7 → lin c d (iStage x k) (iStage y k) (iStage z k)
  | 0, _ => h
  | k + 1, hk => by
    obtain ⟨f1, f2, f3⟩ := nstage_facts (6 - k) (by omega)
    rw [show 6 - (6 - k) = k by omega] at f3
    rw [iStage, iStage, iStage, f3]
    exact il_lin f1 f2 (iStage_lin h k (by omega))
theorem red_fAdd (a b : List Int) : red (fAdd a b) := red_poly fun i _ => by omega
theorem red_fSub (a b : List Int) : red (fSub a b) := red_poly fun i _ => by omega
theorem red_fMulN (a b : List Int) : red (fMulN a b) := red_poly fun i _ => by unfold mval; split <;> omega
theorem add_lin (a b : List Int) : lin 1 1 (fRed a) (fRed b) (fRed (fAdd a b)) := by
  intro i hi
  rw [fRed_red (red_fAdd a b), fAdd, poly_getD hi, fRed, poly_getD hi, fRed, poly_getD hi]
  refine (cg.mod _).trans (cg.symm ((((cg.refl 1).mul (cg.mod _)).add ((cg.refl 1).mul (cg.mod _))).trans (cg.of_eq (by grind))))
theorem lin_add {x y z : List Int} (hz : red z) (h : lin 1 1 x y z) : z = fAdd x y := by
  conv => lhs; rw [← poly_self hz.1]
  refine poly_congr fun i hi => ?_
  refine cg.eq ((h i hi).trans (cg.symm ((cg.mod _).trans (cg.of_eq (by grind))))) (hz.2 i) (by omega)
theorem fNtt_add (a b : List Int) : fNtt (fAdd a b) = fAdd (fNtt a) (fNtt b) := by
  refine lin_add (red_fNtt _) ?_
  have := nStage_lin (add_lin a b) 7 (Nat.le_refl _)
  rwa [← fNtt_eq, ← fNtt_eq, ← fNtt_eq] at this
theorem fInv_add (a b : List Int) : fInv (fAdd a b) = fAdd (fInv a) (fInv b) := by
  refine lin_add (red_fInv _) ?_
  intro i hi
  have h := iStage_lin (add_lin a b) 7 (Nat.le_refl _) i hi
  rw [fInv, poly_getD hi, fInv, poly_getD hi, fInv, poly_getD hi]
  refine (cg.mod _).trans ((h.mul (cg.refl 3303)).trans (cg.symm ((((cg.refl 1).mul (cg.mod _)).add ((cg.refl 1).mul (cg.mod _))).trans (cg.of_eq (by grind)))))

/-! #### The product of transforms -/
theorem mv_even {i : Nat} (hi : i < 128) (a b : List Int) : cg ((fMulN a b).getD (2 * i) 0) (a.getD (2 * i) 0 * b.getD (2 * i) 0 + a.getD (2 * i + 1) 0 * b.getD (2 * i + 1) 0 * root i) := by
  rw [fMulN, poly_getD (by omega), mval, if_pos (by omega), show 2 * i / 2 = i by omega]
  exact (cg.mod _).trans (((cg.mod _).mul (cg.mod _)).add ((((cg.mod _)).trans ((cg.mod _).mul (cg.mod _))).mul (cg.refl _)))
theorem mv_odd {i : Nat} (hi : i < 128) (a b : List Int) : cg ((fMulN a b).getD (2 * i + 1) 0) (a.getD (2 * i) 0 * b.getD (2 * i + 1) 0 + a.getD (2 * i + 1) 0 * b.getD (2 * i) 0) := by
  rw [fMulN, poly_getD (by omega), mval, if_neg (by omega), show 2 * i + 1 - 1 = 2 * i by omega]
  exact (cg.mod _).trans (((cg.mod _).mul (cg.mod _)).add ((cg.mod _).mul (cg.mod _)))
theorem pairs_eq {a b : List Int} (ha : red a) (hb : red b) (h : ∀ i, i < 128 → cg (a.getD (2 * i) 0) (b.getD (2 * i) 0) ∧ cg (a.getD (2 * i + 1) 0) (b.getD (2 * i + 1) 0)) : a = b := by
  rw [← poly_self ha.1, ← poly_self hb.1]
  refine poly_congr fun j hj => ?_
  obtain ⟨h1, h2⟩ := h (j / 2) (by omega)
  rcases Nat.mod_two_eq_zero_or_one j with e | e
  · rw [show 2 * (j / 2) = j by omega] at h1
    exact cg.eq h1 (ha.2 j) (hb.2 j)
  · rw [show 2 * (j / 2) + 1 = j by omega] at h2
    exact cg.eq h2 (ha.2 j) (hb.2 j)
theorem fMulN_comm (a b : List Int) : fMulN a b = fMulN b a := by
  refine pairs_eq (red_fMulN _ _) (red_fMulN _ _) fun i hi => ⟨?_, ?_⟩
  · exact (mv_even hi a b).trans ((cg.of_eq (by grind)).trans (mv_even hi b a).symm)
  · exact (mv_odd hi a b).trans ((cg.of_eq (by grind)).trans (mv_odd hi b a).symm)
theorem fMulN_assoc (a b c : List Int) : fMulN (fMulN a b) c = fMulN a (fMulN b c) := by
  refine pairs_eq (red_fMulN _ _) (red_fMulN _ _) fun i hi => ⟨?_, ?_⟩
  · refine (mv_even hi _ c).trans ((((mv_even hi a b).mul (cg.refl _)).add (((mv_odd hi a b).mul (cg.refl _)).mul (cg.refl _))).trans ?_)
    refine cg.symm ((mv_even hi a _).trans ((((cg.refl _).mul (mv_even hi b c)).add (((cg.refl _).mul (mv_odd hi b c)).mul (cg.refl _))).trans (cg.of_eq ?_)))
    grind
  · refine (mv_odd hi _ c).trans ((((mv_even hi a b).mul (cg.refl _)).add ((mv_odd hi a b).mul (cg.refl _))).trans ?_)
    refine cg.symm ((mv_odd hi a _).trans ((((cg.refl _).mul (mv_odd hi b c)).add ((cg.refl _).mul (mv_even hi b c))).trans (cg.of_eq ?_)))
    grind
theorem add_at {i : Nat} (hi : i < 256) (a b : List Int) : cg ((fAdd a b).getD i 0) (a.getD i 0 + b.getD i 0) := by rw [fAdd, poly_getD hi]; exact cg.mod _
theorem sub_at {i : Nat} (hi : i < 256) (a b : List Int) : cg ((fSub a b).getD i 0) (a.getD i 0 - b.getD i 0) := by rw [fSub, poly_getD hi]; exact cg.mod _
theorem red_at {i : Nat} (hi : i < 256) (a : List Int) : cg ((fRed a).getD i 0) (a.getD i 0) := by rw [fRed, poly_getD hi]; exact cg.mod _
theorem fMulN_add (a b c : List Int) : fMulN a (fAdd b c) = fAdd (fMulN a b) (fMulN a c) := by
  refine pairs_eq (red_fMulN _ _) (red_fAdd _ _) fun i hi => ⟨?_, ?_⟩
  · refine (mv_even hi a _).trans ((((cg.refl _).mul (add_at (by omega) b c)).add (((cg.refl _).mul (add_at (by omega) b c)).mul (cg.refl _))).trans ?_)
    refine cg.symm ((add_at (by omega) _ _).trans (((mv_even hi a b).add (mv_even hi a c)).trans (cg.of_eq ?_)))
    grind
  · refine (mv_odd hi a _).trans ((((cg.refl _).mul (add_at (by omega) b c)).add ((cg.refl _).mul (add_at (by omega) b c))).trans ?_)
    refine cg.symm ((add_at (by omega) _ _).trans (((mv_odd hi a b).add (mv_odd hi a c)).trans (cg.of_eq ?_)))
    grind
theorem list_eq {a b : List Int} (ha : red a) (hb : red b) (h : ∀ i, i < 256 → cg (a.getD i 0) (b.getD i 0)) : a = b := by
  rw [← poly_self ha.1, ← poly_self hb.1]
  exact poly_congr fun j hj => cg.eq (h j hj) (ha.2 j) (hb.2 j)

/-! #### The laws -/
theorem fNtt_mul (a b : List Int) : fNtt (fMul a b) = fMulN (fNtt a) (fNtt b) := by
  rw [fMul, fNtt_fInv, fRed_red (red_fMulN _ _)]
theorem fAdd_comm (a b : List Int) : fAdd a b = fAdd b a := poly_congr fun i _ => by rw [Int.add_comm]
theorem fAdd_assoc (a b c : List Int) : fAdd (fAdd a b) c = fAdd a (fAdd b c) := by
  refine list_eq (red_fAdd _ _) (red_fAdd _ _) fun i hi => ?_
  refine (add_at hi _ _).trans (((add_at hi a b).add (cg.refl _)).trans (cg.symm ((add_at hi _ _).trans (((cg.refl _).add (add_at hi b c)).trans (cg.of_eq (by omega))))))
theorem fSub_fAdd (a b : List Int) : fSub (fAdd a b) b = fRed a := by
  refine list_eq (red_fSub _ _) (red_fRed _) fun i hi => ?_
  refine (sub_at hi _ _).trans (((add_at hi a b).sub (cg.refl _)).trans ((cg.of_eq (by omega)).trans (red_at hi a).symm))
theorem fMul_comm (a b : List Int) : fMul a b = fMul b a := by rw [fMul, fMulN_comm, fMul]
theorem fMul_assoc (a b c : List Int) : fMul (fMul a b) c = fMul a (fMul b c) := by
  rw [fMul, fNtt_mul, fMulN_assoc, ← fNtt_mul, ← fMul]
theorem fMul_add (a b c : List Int) : fMul a (fAdd b c) = fAdd (fMul a b) (fMul a c) := by
  rw [fMul, fNtt_add, fMulN_add, fInv_add, ← fMul, ← fMul]

/-- The transform of 1. -/
def oneAt (s : Nat) : List Int := poly fun j => if j % s = 0 then 1 else 0
theorem one_stage : ∀ k, k ≤ 7 → nStage ex1 k = oneAt (256 / 2 ^ k)
  | 0, _ => by decide +kernel
  | k + 1, hk => by
    rw [nStage, one_stage k (by omega)]
    have : (List.range 7).all (fun k => decide (nLayer (128 / 2 ^ k) (oneAt (256 / 2 ^ k)) = oneAt (256 / 2 ^ (k + 1)))) = true := by decide +kernel
    have := List.all_eq_true.1 this k (List.mem_range.2 (by omega))
    exact of_decide_eq_true this
theorem fMul_one (a : List Int) : fMul a ex1 = fRed a := by
  have h1 : fNtt ex1 = oneAt 2 := by rw [fNtt_eq, one_stage 7 (Nat.le_refl _)]
  have h2 : fMulN (fNtt a) (oneAt 2) = fNtt a := by
    refine pairs_eq (red_fMulN _ _) (red_fNtt _) fun i hi => ?_
    have e0 : (oneAt 2).getD (2 * i) 0 = 1 := by rw [oneAt, poly_getD (by omega), if_pos (by omega)]
    have e1 : (oneAt 2).getD (2 * i + 1) 0 = 0 := by rw [oneAt, poly_getD (by omega), if_neg (by omega)]
    have m0 := mv_even hi (fNtt a) (oneAt 2)
    have m1 := mv_odd hi (fNtt a) (oneAt 2)
    rw [e0, e1] at m0 m1
    exact ⟨m0.trans (cg.of_eq (by grind)), m1.trans (cg.of_eq (by grind))⟩
  rw [fMul, h1, h2, fInv_fNtt]
end Go.Ax.TryP
/-! ### Sums and products: the printed functions; two laws -/
namespace Go.Ax.TryP

theorem red_u16 {a : List Int} (h : red a) : u16s 256 a := h.u16
theorem q_ring_Mul : ∀ x r, g_ring_Mul x = some r → ∃ N, p_ring_Mul N x = some r := by
  refine Spec_of (ks := p_ring_Mul_ks) (rs := p_ring_Mul_rs) fun x hw _ => ⟨0, ?_⟩
  obtain ⟨(a : List Int), (b : List Int), u⟩ := x
  obtain ⟨ha, hb⟩ := wf_pp.1 hw
  unfold p_ring_Mul
  simp only [at24 ha, at24 hb, at20 (red_fNtt a).u16 (red_fNtt b).u16, at26 (red_fMulN _ _).u16, Option.bind_some]
  rfl
theorem q_ring_Add : ∀ x r, g_ring_Add x = some r → ∃ N, p_ring_Add N x = some r := by
  refine Spec_of (ks := p_ring_Add_ks) (rs := p_ring_Add_rs) fun x hw _ => ⟨300, ?_⟩
  obtain ⟨(a : List Int), (b : List Int), u⟩ := x
  obtain ⟨ha, hb⟩ := wf_pp.1 hw
  unfold p_ring_Add
  simp only [at37 ha, at37 hb, Option.bind_some]
  have hl := (fRed_u16 a).1
  refine (iter_run (F := p_ring_Add_l3_F 300) (s := fun i => ((i : Int), part (fun j => (a.getD j 0 + b.getD j 0) % 3329) i (fRed a), fRed b, List.replicate 256 0, ())) (y := (fAdd a b, List.replicate 256 0, ())) 256 ?_ ?_ 300 (by omega)).trans ?_
  · intro i hi kn
    have e1 : (fRed a).getD i 0 = a.getD i 0 % 3329 := by rw [fRed, poly_getD hi]
    have e2 : (fRed b).getD i 0 = b.getD i 0 % 3329 := by rw [fRed, poly_getD hi]
    unfold p_ring_Add_l3_F
    simp (disch := omega) only [if_pos, wrap_i64, Int.toNat_natCast, part_getD (Nat.le_refl i), e1, e2, wrap_u16, tmod_pos]
    rw [part_set' (h := fun j => (a.getD j 0 + b.getD j 0) % 3329) (by omega) (by omega)]
    rfl
  · intro kn
    unfold p_ring_Add_l3_F
    dsimp only
    rw [if_neg (by decide), part_all hl]
    rfl
  · rfl
theorem q_ref13_Add : ∀ x r, g_ref13_Add x = some r → ∃ N, p_ref13_Add N x = some r := by
  refine Spec_of (ks := p_ref13_Add_ks) (rs := p_ref13_Add_rs) fun x hw _ => ⟨300, ?_⟩
  obtain ⟨(a : List Int), (b : List Int), u⟩ := x
  obtain ⟨ha, hb⟩ := wf_pp.1 hw
  unfold p_ref13_Add
  have hl := ha.1
  refine (iter_run (F := p_ref13_Add_l2_F 300) (s := fun i => ((i : Int), part (fun j => (a.getD j 0 + b.getD j 0) % 3329) i a, b, List.replicate 256 0, ())) (y := (fAdd a b, List.replicate 256 0, ())) 256 ?_ ?_ 300 (by omega)).trans ?_
  · intro i hi kn
    have h1 := ha.at i
    have h2 := hb.at i
    unfold p_ref13_Add_l2_F
    simp (disch := omega) only [if_pos, wrap_i64, Int.toNat_natCast, part_getD (Nat.le_refl i), tmod_pos, wrap_u16]
    rw [part_set' (h := fun j => (a.getD j 0 + b.getD j 0) % 3329) (by omega) rfl]
    rfl
  · intro kn
    unfold p_ref13_Add_l2_F
    dsimp only
    rw [if_neg (by decide), part_all hl]
    rfl
  · rfl
theorem q_ring_Sub : ∀ x r, g_ring_Sub x = some r → ∃ N, p_ring_Sub N x = some r := by
  refine Spec_of (ks := p_ring_Sub_ks) (rs := p_ring_Sub_rs) fun x hw _ => ⟨300, ?_⟩
  obtain ⟨(a : List Int), (b : List Int), u⟩ := x
  obtain ⟨ha, hb⟩ := wf_pp.1 hw
  unfold p_ring_Sub
  simp only [at37 ha, at37 hb, Option.bind_some]
  have hl := (fRed_u16 a).1
  refine (iter_run (F := p_ring_Sub_l3_F 300) (s := fun i => ((i : Int), part (fun j => (a.getD j 0 - b.getD j 0) % 3329) i (fRed a), fRed b, List.replicate 256 0, ())) (y := (fSub a b, List.replicate 256 0, ())) 256 ?_ ?_ 300 (by omega)).trans ?_
  · intro i hi kn
    have e1 : (fRed a).getD i 0 = a.getD i 0 % 3329 := by rw [fRed, poly_getD hi]
    have e2 : (fRed b).getD i 0 = b.getD i 0 % 3329 := by rw [fRed, poly_getD hi]
    unfold p_ring_Sub_l3_F
    simp (disch := omega) only [if_pos, wrap_i64, Int.toNat_natCast, part_getD (Nat.le_refl i), e1, e2, wrap_u16, tmod_pos]
    rw [part_set' (h := fun j => (a.getD j 0 - b.getD j 0) % 3329) (by omega) (by omega)]
    rfl
  · intro kn
    unfold p_ring_Sub_l3_F
    dsimp only
    rw [if_neg (by decide), part_all hl]
    rfl
  · rfl
theorem q_ref13_Sub : ∀ x r, g_ref13_Sub x = some r → ∃ N, p_ref13_Sub N x = some r := by
  refine Spec_of (ks := p_ref13_Sub_ks) (rs := p_ref13_Sub_rs) fun x hw _ => ⟨300, ?_⟩
  obtain ⟨(a : List Int), (b : List Int), u⟩ := x
  obtain ⟨ha, hb⟩ := wf_pp.1 hw
  unfold p_ref13_Sub
  have hl := ha.1
  refine (iter_run (F := p_ref13_Sub_l2_F 300) (s := fun i => ((i : Int), part (fun j => (a.getD j 0 - b.getD j 0) % 3329) i a, b, List.replicate 256 0, ())) (y := (fSub a b, List.replicate 256 0, ())) 256 ?_ ?_ 300 (by omega)).trans ?_
  · intro i hi kn
    have h1 := ha.at i
    have h2 := hb.at i
    unfold p_ref13_Sub_l2_F
    simp (disch := omega) only [if_pos, wrap_i64, Int.toNat_natCast, part_getD (Nat.le_refl i), tmod_pos, wrap_u16]
    rw [part_set' (h := fun j => (a.getD j 0 - b.getD j 0) % 3329) (by omega) (by omega)]
    rfl
  · intro kn
    unfold p_ref13_Sub_l2_F
    dsimp only
    rw [if_neg (by decide), part_all hl]
    rfl
  · rfl
theorem at28 {a b : List Int} (ha : u16s 256 a) (hb : u16s 256 b) : g_ring_Mul (a, b, ()) = some (fMul a b) := Spec_at (ks := p_ring_Mul_ks) (rs := p_ring_Mul_rs) (wf_pp.2 ⟨ha, hb⟩) trivial
theorem at29 {a b : List Int} (ha : u16s 256 a) (hb : u16s 256 b) : g_ring_Add (a, b, ()) = some (fAdd a b) := Spec_at (ks := p_ring_Add_ks) (rs := p_ring_Add_rs) (wf_pp.2 ⟨ha, hb⟩) trivial
theorem at39 {a b : List Int} (ha : u16s 256 a) (hb : u16s 256 b) : g_ref13_Add (a, b, ()) = some (fAdd a b) := Spec_at (ks := p_ref13_Add_ks) (rs := p_ref13_Add_rs) (wf_pp.2 ⟨ha, hb⟩) trivial
theorem at40 {a b : List Int} (ha : u16s 256 a) (hb : u16s 256 b) : g_ring_Sub (a, b, ()) = some (fSub a b) := Spec_at (ks := p_ring_Sub_ks) (rs := p_ring_Sub_rs) (wf_pp.2 ⟨ha, hb⟩) trivial
theorem at41 {a b : List Int} (ha : u16s 256 a) (hb : u16s 256 b) : g_ref13_Sub (a, b, ()) = some (fSub a b) := Spec_at (ks := p_ref13_Sub_ks) (rs := p_ref13_Sub_rs) (wf_pp.2 ⟨ha, hb⟩) trivial
theorem at38 {a : List Int} (h : u16s 256 a) : g_ref13_Reduce (a, ()) = some (fRed a) := Spec_at (ks := p_ref13_Reduce_ks) (rs := p_ref13_Reduce_rs) (wf_one.2 h) trivial

theorem q_law13_RingTurns : ∀ x r, g_law13_RingTurns x = some r → ∃ N, p_law13_RingTurns N x = some r := by
  refine Spec_of (ks := p_law13_RingTurns_ks) (rs := p_law13_RingTurns_rs) fun x hw _ => ⟨0, ?_⟩
  obtain ⟨(a : List Int), (b : List Int), u⟩ := x
  obtain ⟨ha, hb⟩ := wf_pp.1 hw
  have hA := (red_fNtt a).u16
  have hB := (red_fNtt b).u16
  unfold p_law13_RingTurns
  simp only [at24 ha, at24 hb, at18, at28 ha hb, at24 (red_fInv _).u16, at20 hA hB, at29 ha hb, at24 (red_fAdd _ _).u16, at29 hA hB, at26 (red_fMulN _ _).u16, fMul, fNtt_fInv, fRed_red (red_fMulN _ _), fNtt_add, Option.bind_some, if_true, decide_true]
theorem wf_ppp {a b c : List Int} : wfAll [.xs (.int .u16) 256, .xs (.int .u16) 256, .xs (.int .u16) 256] (a, b, c, ()) ↔ u16s 256 a ∧ u16s 256 b ∧ u16s 256 c := by simp [wfAll, wf_u16s]
theorem red_fMul (a b : List Int) : red (fMul a b) := red_fInv _
theorem q_law13_RingLaws : ∀ x r, g_law13_RingLaws x = some r → ∃ N, p_law13_RingLaws N x = some r := by
  refine Spec_of (ks := p_law13_RingLaws_ks) (rs := p_law13_RingLaws_rs) fun x hw _ => ⟨0, ?_⟩
  obtain ⟨(a : List Int), (b : List Int), (c : List Int), u⟩ := x
  obtain ⟨ha, hb, hc⟩ := wf_ppp.1 hw
  have e1 : (List.set (List.replicate 256 0) 0 (1:Int)) = ex1 := rfl
  unfold p_law13_RingLaws
  simp only [e1, at18, at29 ha hb, at29 hb ha, at29 hb hc, at28 ha hb, at28 hb ha, at28 hb hc, at28 ha hc, at40 (red_fAdd _ _).u16 hb, at37 ha, at29 (red_fAdd _ _).u16 hc, at29 ha (red_fAdd _ _).u16,
    at28 (red_fMul _ _).u16 hc, at28 ha (red_fMul _ _).u16, at28 ha (red_fAdd _ _).u16, at29 (red_fMul _ _).u16 (red_fMul _ _).u16, at28 ha ex1_u16, fMul_one, fAdd_comm b a, fMul_comm b a, fSub_fAdd, fAdd_assoc, fMul_assoc, fMul_add,
    Option.bind_some, not_true_eq_false, if_false, ne_eq, if_true, decide_true]
theorem s_ring_Inv : SigOk Go.Proofs.Try.prog 26 ⟨p_ring_Inv_ks, p_ring_Inv_rs, g_ring_Inv⟩ := p_ring_Inv_ok s_ring_Reduce s_ring_powers s_ring_times q_ring_Inv
theorem s_ring_Mul : SigOk Go.Proofs.Try.prog 28 ⟨p_ring_Mul_ks, p_ring_Mul_rs, g_ring_Mul⟩ := p_ring_Mul_ok s_ring_Ntt s_ring_MulNtt s_ring_Inv q_ring_Mul
theorem s_ring_Add : SigOk Go.Proofs.Try.prog 29 ⟨p_ring_Add_ks, p_ring_Add_rs, g_ring_Add⟩ := p_ring_Add_ok s_ring_Reduce q_ring_Add
theorem s_ref13_Add : SigOk Go.Proofs.Try.prog 39 ⟨p_ref13_Add_ks, p_ref13_Add_rs, g_ref13_Add⟩ := p_ref13_Add_ok q_ref13_Add
theorem s_ring_Sub : SigOk Go.Proofs.Try.prog 40 ⟨p_ring_Sub_ks, p_ring_Sub_rs, g_ring_Sub⟩ := p_ring_Sub_ok s_ring_Reduce q_ring_Sub
theorem s_ref13_Sub : SigOk Go.Proofs.Try.prog 41 ⟨p_ref13_Sub_ks, p_ref13_Sub_rs, g_ref13_Sub⟩ := p_ref13_Sub_ok q_ref13_Sub
theorem s_law13_RingTurns : SigOk Go.Proofs.Try.prog 8 ⟨p_law13_RingTurns_ks, p_law13_RingTurns_rs, g_law13_RingTurns⟩ := p_law13_RingTurns_ok s_ring_Ntt s_law13_live s_ring_Mul s_ring_MulNtt s_ring_Add s_ring_Inv q_law13_RingTurns
theorem s_law13_RingLaws : SigOk Go.Proofs.Try.prog 11 ⟨p_law13_RingLaws_ks, p_law13_RingLaws_rs, g_law13_RingLaws⟩ := p_law13_RingLaws_ok s_law13_live s_ring_Add s_ring_Mul s_ring_Sub s_ring_Reduce q_law13_RingLaws
end Go.Ax.TryP
/-! ### What the transform's numbers are -/
namespace Go.Ax.TryP

def sum : Nat → (Nat → Int) → Int
  | 0, _ => 0
  | n + 1, f => sum n f + f n
theorem sum_congr {n : Nat} {f g : Nat → Int} (h : ∀ i, i < n → f i = g i) : sum n f = sum n g := by
  induction n with
  | zero => rfl
  | succ n ih => rw [sum, sum, ih fun i hi => h i (by omega), h n (by omega)]
theorem sum_cg {n : Nat} {f g : Nat → Int} (h : ∀ i, i < n → cg (f i) (g i)) : cg (sum n f) (sum n g) := by
  induction n with
  | zero => exact cg.refl _
  | succ n ih => exact (ih fun i hi => h i (by omega)).add (h n (by omega))
theorem sum_add (n : Nat) (f g : Nat → Int) : sum n (fun i => f i + g i) = sum n f + sum n g := by
  induction n with
  | zero => rfl
  | succ n ih => rw [sum, sum, sum, ih]; omega
theorem sum_mul (n : Nat) (c : Int) (f : Nat → Int) : sum n (fun i => c * f i) = c * sum n f := by
  induction n with
  | zero => simp [sum]
  | succ n ih => rw [sum, sum, ih]; grind
theorem sum_mul_right (n : Nat) (c : Int) (f : Nat → Int) : sum n (fun i => f i * c) = sum n f * c := by
  induction n with
  | zero => simp [sum]
  | succ n ih => rw [sum, sum, ih]; grind
theorem sum_zero (n : Nat) : sum n (fun _ => 0) = 0 := by
  induction n with
  | zero => rfl
  | succ n ih => rw [sum, ih]; rfl
theorem sum_swap (n m : Nat) (f : Nat → Nat → Int) : sum n (fun i => sum m (f i)) = sum m (fun j => sum n fun i => f i j) := by
  induction n with
  | zero => simp [sum, sum_zero]
  | succ n ih => rw [sum, ih, ← sum_add]; rfl
/-- Pairs of terms. -/
theorem sum_two (n : Nat) (f : Nat → Int) : sum (2 * n) f = sum n fun i => f (2 * i) + f (2 * i + 1) := by
  induction n with
  | zero => rfl
  | succ n ih => rw [show 2 * (n + 1) = 2 * n + 1 + 1 by omega, sum, sum, ih, sum]; omega
theorem sum_split (n m : Nat) (f : Nat → Int) : sum (n + m) f = sum n f + sum m fun i => f (n + i) := by
  induction m with
  | zero => simp [sum]
  | succ m ih => rw [← Nat.add_assoc, sum, ih, sum]; omega
/-- One term alone. -/
theorem sum_one {n k : Nat} (hk : k < n) (f : Nat → Int) : sum n (fun i => if i = k then f i else 0) = f k := by
  induction n with
  | zero => omega
  | succ n ih =>
    rw [sum]
    by_cases h : n = k
    · subst h
      rw [if_pos rfl, sum_congr (g := fun _ => 0) (fun i hi => if_neg (by omega)), sum_zero]; omega
    · rw [ih (by omega), if_neg h]; omega

/-- The block's number: block b of 2^t. -/
def cOf : Nat → Nat → Int
  | 0, _ => -1
  | t + 1, b => if b % 2 = 0 then zeta (2 ^ t + b / 2) else - zeta (2 ^ t + b / 2)
theorem cOf_sq_all : (List.range 7).all (fun t => (List.range (2 ^ t)).all fun b => (zeta (2 ^ t + b) * zeta (2 ^ t + b) - cOf t b) % 3329 == 0) = true := by decide +kernel
theorem cOf_sq {t b : Nat} (ht : t < 7) (hb : b < 2 ^ t) : cg (cOf t b) (zeta (2 ^ t + b) * zeta (2 ^ t + b)) := by
  have h1 := List.all_eq_true.1 cOf_sq_all t (List.mem_range.2 ht)
  have h3 := eq_of_beq (List.all_eq_true.1 h1 b (List.mem_range.2 hb))
  exact ⟨-((zeta (2 ^ t + b) * zeta (2 ^ t + b) - cOf t b) / 3329), by omega⟩
theorem cOf_root_all : (List.range 128).all (fun i => (cOf 7 i - root i) % 3329 == 0) = true := by decide +kernel
theorem cOf_root {i : Nat} (hi : i < 128) : cg (cOf 7 i) (root i) := by
  have h3 := eq_of_beq (List.all_eq_true.1 cOf_root_all i (List.mem_range.2 hi))
  exact ⟨(cOf 7 i - root i) / 3329, by omega⟩
theorem cg.pow {x y : Int} (h : cg x y) (n : Nat) : cg (x ^ n) (y ^ n) := by
  induction n with
  | zero => rw [Int.pow_zero, Int.pow_zero]; exact cg.refl _
  | succ n ih => rw [Int.pow_succ, Int.pow_succ]; exact ih.mul h

/-- Remainder of the polynomial modulo X^L - c, at place r. -/
def ev (a : List Int) (n L r : Nat) (c : Int) : Int := sum n fun j => a.getD (j * L + r) 0 * c ^ j
theorem ev_step (a : List Int) (n s r : Nat) (z : Int) : ev a (2 * n) s r z = ev a n (2 * s) r (z * z) + z * ev a n (2 * s) (r + s) (z * z) := by
  unfold ev
  rw [sum_two, ← sum_mul, ← sum_add]
  refine sum_congr fun i _ => ?_
  rw [show 2 * i * s + r = i * (2 * s) + r by grind, show (2 * i + 1) * s + r = i * (2 * s) + (r + s) by grind]
  rw [Int.pow_succ, Int.pow_mul, show z ^ 2 = z * z by rw [Int.pow_succ, Int.pow_succ, Int.pow_zero, Int.one_mul]]
  grind
theorem ev_cg {a : List Int} {n L r : Nat} {c d : Int} (h : cg c d) : cg (ev a n L r c) (ev a n L r d) := sum_cg fun j _ => (cg.refl _).mul (h.pow j)

theorem stage_ev (a : List Int) : ∀ t, t ≤ 7 → ∀ b r, b < 2 ^ t → r < 256 / 2 ^ t → cg ((nStage a t).getD (256 / 2 ^ t * b + r) 0) (ev (fRed a) (2 ^ t) (256 / 2 ^ t) r (cOf t b))
  | 0, _, b, r, hb, _ => by
    have : b = 0 := by simpa using hb
    subst this
    simp only [nStage, Nat.pow_zero, ev, sum, Int.pow_zero]
    exact cg.of_eq (by simp)
  | t + 1, ht, b, r, hb, hr => by
    obtain ⟨f1, f2, _⟩ := nstage_facts t (by omega)
    have e1 : 256 / 2 ^ (t + 1) = 128 / 2 ^ t := (by decide : ∀ t, t < 7 → 256 / 2 ^ (t + 1) = 128 / 2 ^ t) t (by omega)
    have e2 : 256 / 2 ^ t = 2 * (128 / 2 ^ t) := (by decide : ∀ t, t < 7 → 256 / 2 ^ t = 2 * (128 / 2 ^ t)) t (by omega)
    rw [e1] at hr ⊢
    have ih := stage_ev a t (by omega) (b / 2)
    rw [e2] at ih
    have hb2 : b / 2 < 2 ^ t := by rw [Nat.pow_succ] at hb; omega
    have i1 := ih r hb2 (by omega)
    have i2 := ih (r + 128 / 2 ^ t) hb2 (by omega)
    have hsq := cOf_sq (by omega) hb2
    have p2 : 2 ^ (t + 1) = 2 * 2 ^ t := by rw [Nat.pow_succ, Nat.mul_comm]
    rw [nStage, p2]
    generalize hS : 128 / 2 ^ t = s at *
    rw [← Nat.add_assoc] at i2
    rcases Nat.mod_two_eq_zero_or_one b with hm | hm
    · have hc : cOf (t + 1) b = zeta (2 ^ t + b / 2) := by rw [cOf, if_pos hm]
      have hidx : s * b + r = 2 * s * (b / 2) + r := by
        have : b = 2 * (b / 2) := by omega
        conv => lhs; rw [this]
        grind
      rw [hidx, hc, ev_step]
      refine (nl_lo f1 f2 hb2 hr _).trans ((i1.trans (ev_cg hsq)).add ((cg.refl _).mul (i2.trans (ev_cg hsq))))
    · have hc : cOf (t + 1) b = - zeta (2 ^ t + b / 2) := by rw [cOf, if_neg (by omega)]
      have hidx : s * b + r = 2 * s * (b / 2) + r + s := by
        have : b = 2 * (b / 2) + 1 := by omega
        conv => lhs; rw [this]
        grind
      have hneg : (- zeta (2 ^ t + b / 2)) * (- zeta (2 ^ t + b / 2)) = zeta (2 ^ t + b / 2) * zeta (2 ^ t + b / 2) := by grind
      rw [hidx, hc, ev_step, hneg]
      refine (nl_hi f1 f2 hb2 hr _).trans (((i1.trans (ev_cg hsq)).sub ((cg.refl _).mul (i2.trans (ev_cg hsq)))).trans (cg.of_eq ?_))
      grind

/-- The transform, pair by pair: remainders modulo X^2 - root. -/
theorem ntt_ev (a : List Int) {i r : Nat} (hi : i < 128) (hr : r < 2) : cg ((fNtt a).getD (2 * i + r) 0) (ev (fRed a) 128 2 r (root i)) := by
  rw [fNtt_eq]
  exact (stage_ev a 7 (Nat.le_refl _) i r hi hr).trans (ev_cg (cOf_root hi))
end Go.Ax.TryP
/-! ### The product, as the document reckons it -/
namespace Go.Ax.TryP

def cv (a b : List Int) (i n : Nat) : Int := sum i fun u => if u ≤ n ∧ n < u + 256 then (fRed a).getD u 0 * (fRed b).getD (n - u) 0 else 0
theorem cv_bound (a b : List Int) (n : Nat) : ∀ i, 0 ≤ cv a b i n ∧ cv a b i n ≤ i * 11075584
  | 0 => by simp [cv, sum]
  | i + 1 => by
    have ih := cv_bound a b n i
    have h1 := fRed_lt a i
    have h2 := fRed_lt b (n - i)
    have hm := mul_bound (a := (fRed a).getD i 0) (b := (fRed b).getD (n - i) 0) (by omega) (by omega)
    unfold cv at ih ⊢
    rw [sum]
    split <;> omega
theorem cv_succ (a b : List Int) (i n : Nat) : cv a b (i + 1) n = if i ≤ n ∧ n < i + 256 then cv a b i n + (fRed a).getD i 0 * (fRed b).getD (n - i) 0 else cv a b i n := by
  unfold cv
  rw [sum]
  split <;> omega
def fMulR (a b : List Int) : List Int := poly fun j => (cv a b 256 j - cv a b 256 (j + 256)) % 3329

theorem shift_sum {v : Nat} (hv : v ≤ 128) (g : Nat → Int) (p : Int) : sum 256 (fun j => if v ≤ j ∧ j < v + 128 then g (j - v) * p ^ j else 0) = p ^ v * sum 128 fun k => g k * p ^ k := by
  rw [show 256 = v + (128 + (128 - v)) by omega, sum_split, sum_split, ← sum_mul]
  rw [sum_congr (n := v) (g := fun _ => 0) (fun i hi => if_neg (by omega)), sum_zero]
  rw [sum_congr (n := 128 - v) (g := fun _ => 0) (fun i hi => if_neg (by omega)), sum_zero]
  rw [Int.zero_add, Int.add_zero]
  refine sum_congr fun i hi => ?_
  rw [if_pos (by omega), show v + i - v = i by omega, Int.pow_add]
  grind

theorem root_pow_all : (List.range 128).all (fun i => (root i ^ 128 + 1) % 3329 == 0) = true := by decide +kernel
theorem root_pow {i : Nat} (hi : i < 128) : cg (root i ^ 128) (-1) := by
  have h3 := eq_of_beq (List.all_eq_true.1 root_pow_all i (List.mem_range.2 hi))
  exact ⟨(root i ^ 128 + 1) / 3329, by omega⟩

def E (a : List Int) (e : Nat) (p : Int) : Int := ev (fRed a) 128 2 e p
theorem E_def (a : List Int) (e : Nat) (p : Int) : E a e p = sum 128 fun k => (fRed a).getD (k * 2 + e) 0 * p ^ k := rfl

theorem conv_even (a b : List Int) (p : Int) : sum 256 (fun j => cv a b 256 (2 * j) * p ^ j) = E a 0 p * E b 0 p + E a 1 p * E b 1 p * p := by
  have h1 : sum 256 (fun j => cv a b 256 (2 * j) * p ^ j) = sum 256 fun u => (fRed a).getD u 0 * sum 256 fun j => if u ≤ 2 * j ∧ 2 * j < u + 256 then (fRed b).getD (2 * j - u) 0 * p ^ j else 0 := by
    rw [show (fun u => (fRed a).getD u 0 * sum 256 fun j => if u ≤ 2 * j ∧ 2 * j < u + 256 then (fRed b).getD (2 * j - u) 0 * p ^ j else 0) = fun u => sum 256 fun j => (fRed a).getD u 0 * (if u ≤ 2 * j ∧ 2 * j < u + 256 then (fRed b).getD (2 * j - u) 0 * p ^ j else 0) from funext fun u => (sum_mul _ _ _).symm]
    rw [sum_swap]
    refine sum_congr fun j _ => ?_
    unfold cv
    rw [← sum_mul_right]
    refine sum_congr fun u _ => ?_
    split <;> grind
  rw [h1, show 256 = 2 * 128 from rfl, sum_two]
  have h2 : ∀ v, v < 128 → (fRed a).getD (2 * v) 0 * sum (2 * 128) (fun j => if 2 * v ≤ 2 * j ∧ 2 * j < 2 * v + 2 * 128 then (fRed b).getD (2 * j - 2 * v) 0 * p ^ j else 0) + (fRed a).getD (2 * v + 1) 0 * sum (2 * 128) (fun j => if 2 * v + 1 ≤ 2 * j ∧ 2 * j < 2 * v + 1 + 2 * 128 then (fRed b).getD (2 * j - (2 * v + 1)) 0 * p ^ j else 0)
      = (fRed a).getD (v * 2 + 0) 0 * p ^ v * E b 0 p + (fRed a).getD (v * 2 + 1) 0 * p ^ v * (E b 1 p * p) := by
    intro v hv
    have s1 := shift_sum (v := v) (by omega) (fun k => (fRed b).getD (k * 2 + 0) 0) p
    have s2 := shift_sum (v := v + 1) (by omega) (fun k => (fRed b).getD (k * 2 + 1) 0) p
    rw [sum_congr (n := 2 * 128) (g := fun j => if v ≤ j ∧ j < v + 128 then (fRed b).getD ((j - v) * 2 + 0) 0 * p ^ j else 0) (fun j _ => by
      by_cases hc : v ≤ j ∧ j < v + 128
      · rw [if_pos hc, if_pos (by omega), show 2 * j - 2 * v = (j - v) * 2 + 0 by omega]
      · rw [if_neg hc, if_neg (by omega)])]
    rw [sum_congr (n := 2 * 128) (f := fun j => if 2 * v + 1 ≤ 2 * j ∧ 2 * j < 2 * v + 1 + 2 * 128 then (fRed b).getD (2 * j - (2 * v + 1)) 0 * p ^ j else 0) (g := fun j => if v + 1 ≤ j ∧ j < v + 1 + 128 then (fRed b).getD ((j - (v + 1)) * 2 + 1) 0 * p ^ j else 0) (fun j _ => by
      by_cases hc : v + 1 ≤ j ∧ j < v + 1 + 128
      · rw [if_pos hc, if_pos (by omega), show 2 * j - (2 * v + 1) = (j - (v + 1)) * 2 + 1 by omega]
      · rw [if_neg hc, if_neg (by omega)])]
    rw [s1, s2, ← E_def, ← E_def, Int.pow_succ, show 2 * v = v * 2 + 0 by omega, show v * 2 + 0 + 1 = v * 2 + 1 by omega]
    grind
  rw [sum_congr h2, sum_add, sum_mul_right, sum_mul_right, ← E_def, ← E_def]
  grind
theorem conv_odd (a b : List Int) (p : Int) : sum 256 (fun j => cv a b 256 (2 * j + 1) * p ^ j) = E a 0 p * E b 1 p + E a 1 p * E b 0 p := by
  have h1 : sum 256 (fun j => cv a b 256 (2 * j + 1) * p ^ j) = sum 256 fun u => (fRed a).getD u 0 * sum 256 fun j => if u ≤ 2 * j + 1 ∧ 2 * j + 1 < u + 256 then (fRed b).getD (2 * j + 1 - u) 0 * p ^ j else 0 := by
    rw [show (fun u => (fRed a).getD u 0 * sum 256 fun j => if u ≤ 2 * j + 1 ∧ 2 * j + 1 < u + 256 then (fRed b).getD (2 * j + 1 - u) 0 * p ^ j else 0) = fun u => sum 256 fun j => (fRed a).getD u 0 * (if u ≤ 2 * j + 1 ∧ 2 * j + 1 < u + 256 then (fRed b).getD (2 * j + 1 - u) 0 * p ^ j else 0) from funext fun u => (sum_mul _ _ _).symm]
    rw [sum_swap]
    refine sum_congr fun j _ => ?_
    unfold cv
    rw [← sum_mul_right]
    refine sum_congr fun u _ => ?_
    split <;> grind
  rw [h1, show 256 = 2 * 128 from rfl, sum_two]
  have h2 : ∀ v, v < 128 → (fRed a).getD (2 * v) 0 * sum (2 * 128) (fun j => if 2 * v ≤ 2 * j + 1 ∧ 2 * j + 1 < 2 * v + 2 * 128 then (fRed b).getD (2 * j + 1 - 2 * v) 0 * p ^ j else 0) + (fRed a).getD (2 * v + 1) 0 * sum (2 * 128) (fun j => if 2 * v + 1 ≤ 2 * j + 1 ∧ 2 * j + 1 < 2 * v + 1 + 2 * 128 then (fRed b).getD (2 * j + 1 - (2 * v + 1)) 0 * p ^ j else 0)
      = (fRed a).getD (v * 2 + 0) 0 * p ^ v * E b 1 p + (fRed a).getD (v * 2 + 1) 0 * p ^ v * E b 0 p := by
    intro v hv
    have s1 := shift_sum (v := v) (by omega) (fun k => (fRed b).getD (k * 2 + 1) 0) p
    have s2 := shift_sum (v := v) (by omega) (fun k => (fRed b).getD (k * 2 + 0) 0) p
    rw [sum_congr (n := 2 * 128) (g := fun j => if v ≤ j ∧ j < v + 128 then (fRed b).getD ((j - v) * 2 + 1) 0 * p ^ j else 0) (fun j _ => by
      by_cases hc : v ≤ j ∧ j < v + 128
      · rw [if_pos hc, if_pos (by omega), show 2 * j + 1 - 2 * v = (j - v) * 2 + 1 by omega]
      · rw [if_neg hc, if_neg (by omega)])]
    rw [sum_congr (n := 2 * 128) (f := fun j => if 2 * v + 1 ≤ 2 * j + 1 ∧ 2 * j + 1 < 2 * v + 1 + 2 * 128 then (fRed b).getD (2 * j + 1 - (2 * v + 1)) 0 * p ^ j else 0) (g := fun j => if v ≤ j ∧ j < v + 128 then (fRed b).getD ((j - v) * 2 + 0) 0 * p ^ j else 0) (fun j _ => by
      by_cases hc : v ≤ j ∧ j < v + 128
      · rw [if_pos hc, if_pos (by omega), show 2 * j + 1 - (2 * v + 1) = (j - v) * 2 + 0 by omega]
      · rw [if_neg hc, if_neg (by omega)])]
    rw [s1, s2, ← E_def, ← E_def, show 2 * v = v * 2 + 0 by omega, show v * 2 + 0 + 1 = v * 2 + 1 by omega]
    grind
  rw [sum_congr h2, sum_add, sum_mul_right, sum_mul_right, ← E_def, ← E_def]

theorem ev_mulR (a b : List Int) {i e : Nat} (hi : i < 128) (he : e < 2) : cg (ev (fMulR a b) 128 2 e (root i)) (sum 256 fun j => cv a b 256 (2 * j + e) * root i ^ j) := by
  rw [show 256 = 128 + 128 from rfl, sum_split, ← sum_add]
  refine sum_cg fun j hj => ?_
  rw [fMulR, poly_getD (by omega), show 2 * (128 + j) + e = j * 2 + e + 256 by omega, show 2 * j + e = j * 2 + e by omega, Int.pow_add]
  refine ((cg.mod _).mul (cg.refl _)).trans (cg.symm (((cg.refl _).add ((cg.refl _).mul ((root_pow hi).mul (cg.refl _)))).trans (cg.of_eq (by grind))))
theorem fMulR_eq (a b : List Int) : fMulR a b = fMul a b := by
  have hr : red (fMulR a b) := red_poly fun i _ => by omega
  have key : fNtt (fMulR a b) = fMulN (fNtt a) (fNtt b) := by
    refine pairs_eq (red_fNtt _) (red_fMulN _ _) fun i hi => ⟨?_, ?_⟩
    · have h0 := ntt_ev (fMulR a b) hi (show 0 < 2 by omega)
      rw [fRed_red hr] at h0
      have a0 := ntt_ev a hi (show 0 < 2 by omega); have a1 := ntt_ev a hi (show 1 < 2 by omega)
      have b0 := ntt_ev b hi (show 0 < 2 by omega); have b1 := ntt_ev b hi (show 1 < 2 by omega)
      refine (h0.trans ((ev_mulR a b hi (by omega)).trans (cg.of_eq (conv_even a b (root i))))).trans (cg.symm ((mv_even hi _ _).trans ?_))
      exact (a0.mul b0).add ((a1.mul b1).mul (cg.refl _))
    · have h0 := ntt_ev (fMulR a b) hi (show 1 < 2 by omega)
      rw [fRed_red hr] at h0
      have a0 := ntt_ev a hi (show 0 < 2 by omega); have a1 := ntt_ev a hi (show 1 < 2 by omega)
      have b0 := ntt_ev b hi (show 0 < 2 by omega); have b1 := ntt_ev b hi (show 1 < 2 by omega)
      refine (h0.trans ((ev_mulR a b hi (by omega)).trans (cg.of_eq (conv_odd a b (root i))))).trans (cg.symm ((mv_odd hi _ _).trans ?_))
      exact (a0.mul b1).add (a1.mul b0)
  rw [fMul, ← key, fInv_fNtt, fRed_red hr]
end Go.Ax.TryP
namespace Go.Ax.TryP
noncomputable def g_ref13_Mul : List Int × List Int × Unit → Option (List Int) := Spec (ks := [.xs (.int .u16) 256, .xs (.int .u16) 256]) (rs := [.xs (.int .u16) 256]) (fun _ => True) fun x => fMul x.1 x.2.1
noncomputable def g_law13_RingSums : List Int × List Int × Unit → Option Bool := Spec (ks := [.xs (.int .u16) 256, .xs (.int .u16) 256]) (rs := [.bool]) (fun _ => True) fun _ => true
end Go.Ax.TryP
/-! Printed by program (gen.py). -/
set_option linter.unusedVariables false
namespace Go.Ax.TryP
/-! livery/liveryref13.Mul -/
noncomputable def p_ref13_Mul_E : AE := AE.of [(3, ty3), (22, ty22), (24, ty24), (60, ty60)] []
noncomputable def p_ref13_Mul_H : Hints := [(3, [2, 3, 4, 5, 10]), (6, [2, 3, 4, 5, 6, 10, 13]), (13, [4, 5, 8, 36]), (2000000, [4, 5]), (2000001, [2, 3, 4, 5, 10]), (2000002, [2, 3, 4, 5, 10]), (2000003, [2, 3, 4, 5, 6, 10, 13]), (2000004, [4, 8]), (2000005, [4, 5, 8, 36]), (3000000, [4])]
noncomputable def p_ref13_Mul_c : Code := (Go.Proofs.Try.f42).body.getD .skip
noncomputable def p_ref13_Mul_l6_S : Shape where
  h := { tmps := [.any, .any, .sc (.ptr 0 0 false), .sc (.ptr 1 0 false), .sc (.ptr 2 0 false), .sc (.ptr 3 0 false), .sc (.int .i64), .any, .any, .any, .sc (.int .i64), .any, .any, .sc (.int .i64), .any, .any, .any, .any, .any, .any, .any, .any, .any, .any, .any, .any, .any, .any, .any, .any, .any, .any, .any, .any, .any, .any, .any, .any, .any, .any, .any, .any, .any, .any, .any, .any, .any, .any, .any, .any, .any, .any, .any, .any, .any, .any], mem := [.live [.xs (.int .u16) (some 256)] true, .live [.xs (.int .u16) (some 256)] true, .live [.xs (.int .u16) (some 256)] true, .live [.xs (.int .i64) (some 512)] true] }
  ks := [.int, .int, .int, .xs, .xs, .xs, .xs]
  st := fun x => { tmps := [.one .any, .one .any, .one (.sc (.ptr 0 0 none)), .one (.sc (.ptr 1 0 none)), .one (.sc (.ptr 2 0 none)), .one (.sc (.ptr 3 0 none)), .one (.sc (.int .i64 x.1)), .one .any, .one .any, .one .any, .one (.sc (.int .i64 x.2.1)), .one .any, .one .any, .one (.sc (.int .i64 x.2.2.1)), .one .any, .one .any, .one .any, .one .any, .one .any, .one .any, .one .any, .one .any, .one .any, .one .any, .one .any, .one .any, .one .any, .one .any, .one .any, .one .any, .one .any, .one .any, .one .any, .one .any, .one .any, .one .any, .one .any, .one .any, .one .any, .one .any, .one .any, .one .any, .one .any, .one .any, .one .any, .one .any, .one .any, .one .any, .one .any, .one .any, .one .any, .one .any, .one .any, .one .any, .one .any, .one .any], mem := [.live { segs := [.xs (.int .u16) 256 x.2.2.2.1], own := true }, .live { segs := [.xs (.int .u16) 256 x.2.2.2.2.1], own := true }, .live { segs := [.xs (.int .u16) 256 x.2.2.2.2.2.1], own := true }, .live { segs := [.xs (.int .i64) 512 x.2.2.2.2.2.2.1], own := true }] }
noncomputable def p_ref13_Mul_l6_F (N : Nat) (β : Type) (x : (Int × Int × Int × List Int × List Int × List Int × List Int × Unit)) (kn : (Int × Int × Int × List Int × List Int × List Int × List Int × Unit) → Option β) (ke : ((Int × List Int × List Int × List Int × List Int × Unit)) → Option β) : Option β :=
  if (x.2.2.1 < (256:Int)) then
    if 0 ≤ (IntKind.i64.wrap (x.1 + x.2.2.1)) then (
    if (IntKind.i64.wrap (x.1 + x.2.2.1)) < 512 then (
    if ((IntKind.i64.wrap (x.1 + x.2.2.1)).toNat) < 512 then (
    if 0 ≤ x.1 then (
    if x.1 < 256 then (
    if (x.1.toNat) < 256 then (
    if 0 ≤ x.2.2.1 then (
    if x.2.2.1 < 256 then (
    if (x.2.2.1.toNat) < 256 then (
    if 0 ≤ (IntKind.i64.wrap (x.1 + x.2.2.1)) then (
    if (IntKind.i64.wrap (x.1 + x.2.2.1)) < 512 then (
    if ((IntKind.i64.wrap (x.1 + x.2.2.1)).toNat) < 512 then (
    kn (x.1, x.2.1, (IntKind.i64.wrap (x.2.2.1 + (1:Int))), x.2.2.2.1, x.2.2.2.2.1, x.2.2.2.2.2.1, (List.set x.2.2.2.2.2.2.1 ((IntKind.i64.wrap (x.1 + x.2.2.1)).toNat) (IntKind.i64.wrap ((List.getD x.2.2.2.2.2.2.1 ((IntKind.i64.wrap (x.1 + x.2.2.1)).toNat) 0) + (IntKind.i64.wrap ((IntKind.i64.wrap (Int.tmod (List.getD x.2.2.2.1 (x.1.toNat) 0) (3329:Int))) * (IntKind.i64.wrap (Int.tmod (List.getD x.2.2.2.2.1 (x.2.2.1.toNat) 0) (3329:Int)))))))), ())) else none) else none) else none) else none) else none) else none) else none) else none) else none) else none) else none) else none
  else
    ke (x.2.1, x.2.2.2.1, x.2.2.2.2.1, x.2.2.2.2.2.1, x.2.2.2.2.2.2.1, ())
noncomputable def p_ref13_Mul_l6_go : Go' ((Int × List Int × List Int × List Int × List Int × Unit)) := fun y K => K (.exit 2) { tmps := [.one .any, .one .any, .one (.sc (.ptr 0 0 none)), .one (.sc (.ptr 1 0 none)), .one (.sc (.ptr 2 0 none)), .one (.sc (.ptr 3 0 none)), .one .any, .one .any, .one .any, .one .any, .one (.sc (.int .i64 y.1)), .one .any, .one .any, .one .any, .one .any, .one .any, .one .any, .one .any, .one .any, .one .any, .one .any, .one .any, .one .any, .one .any, .one .any, .one .any, .one .any, .one .any, .one .any, .one .any, .one .any, .one .any, .one .any, .one .any, .one .any, .one .any, .one .any, .one .any, .one .any, .one .any, .one .any, .one .any, .one .any, .one .any, .one .any, .one .any, .one .any, .one .any, .one .any, .one .any, .one .any, .one .any, .one .any, .one .any, .one .any, .one .any], mem := [.live { segs := [.xs (.int .u16) 256 y.2.1], own := true }, .live { segs := [.xs (.int .u16) 256 y.2.2.1], own := true }, .live { segs := [.xs (.int .u16) 256 y.2.2.2.1], own := true }, .live { segs := [.xs (.int .i64) 512 y.2.2.2.2.1], own := true }] }
noncomputable def p_ref13_Mul_l6_L (N : Nat) : LT := upd (LT.nil) 6 (loopE p_ref13_Mul_l6_S N (p_ref13_Mul_l6_F N) p_ref13_Mul_l6_go)
theorem p_ref13_Mul_l6_ok (N : Nat) : OkAll p_ref13_Mul_E p_ref13_Mul_H N (p_ref13_Mul_l6_L N) (subs p_ref13_Mul_c) :=
  addLoop (c := theLoop 6 p_ref13_Mul_c) (OkAll.nil) (by kernel_rfl) (fun x => by kernel_rfl) (fun β x kn ke => by kernel_rfl)
noncomputable def p_ref13_Mul_l3_S : Shape where
  h := { tmps := [.any, .any, .sc (.ptr 0 0 false), .sc (.ptr 1 0 false), .sc (.ptr 2 0 false), .sc (.ptr 3 0 false), .any, .any, .any, .any, .sc (.int .i64), .any, .any, .any, .any, .any, .any, .any, .any, .any, .any, .any, .any, .any, .any, .any, .any, .any, .any, .any, .any, .any, .any, .any, .any, .any, .any, .any, .any, .any, .any, .any, .any, .any, .any, .any, .any, .any, .any, .any, .any, .any, .any, .any, .any, .any], mem := [.live [.xs (.int .u16) (some 256)] true, .live [.xs (.int .u16) (some 256)] true, .live [.xs (.int .u16) (some 256)] true, .live [.xs (.int .i64) (some 512)] true] }
  ks := [.int, .xs, .xs, .xs, .xs]
  st := fun x => { tmps := [.one .any, .one .any, .one (.sc (.ptr 0 0 none)), .one (.sc (.ptr 1 0 none)), .one (.sc (.ptr 2 0 none)), .one (.sc (.ptr 3 0 none)), .one .any, .one .any, .one .any, .one .any, .one (.sc (.int .i64 x.1)), .one .any, .one .any, .one .any, .one .any, .one .any, .one .any, .one .any, .one .any, .one .any, .one .any, .one .any, .one .any, .one .any, .one .any, .one .any, .one .any, .one .any, .one .any, .one .any, .one .any, .one .any, .one .any, .one .any, .one .any, .one .any, .one .any, .one .any, .one .any, .one .any, .one .any, .one .any, .one .any, .one .any, .one .any, .one .any, .one .any, .one .any, .one .any, .one .any, .one .any, .one .any, .one .any, .one .any, .one .any, .one .any], mem := [.live { segs := [.xs (.int .u16) 256 x.2.1], own := true }, .live { segs := [.xs (.int .u16) 256 x.2.2.1], own := true }, .live { segs := [.xs (.int .u16) 256 x.2.2.2.1], own := true }, .live { segs := [.xs (.int .i64) 512 x.2.2.2.2.1], own := true }] }
noncomputable def p_ref13_Mul_l3_F (N : Nat) (β : Type) (x : (Int × List Int × List Int × List Int × List Int × Unit)) (kn : (Int × List Int × List Int × List Int × List Int × Unit) → Option β) (ke : ((List Int × List Int × Unit)) → Option β) : Option β :=
  if (x.1 < (256:Int)) then
    iter (p_ref13_Mul_l6_F N) N (x.1, x.1, (0:Int), x.2.1, x.2.2.1, x.2.2.2.1, x.2.2.2.2.1, ()) fun y1 => (
    kn ((IntKind.i64.wrap (y1.1 + (1:Int))), y1.2.1, y1.2.2.1, y1.2.2.2.1, y1.2.2.2.2.1, ()))
  else
    ke (x.2.2.2.1, x.2.2.2.2.1, ())
noncomputable def p_ref13_Mul_l3_go : Go' ((List Int × List Int × Unit)) := fun y K => K (.exit 0) { tmps := [.one .any, .one .any, .one .any, .one .any, .one (.sc (.ptr 0 0 none)), .one (.sc (.ptr 1 0 none)), .one .any, .one .any, .one .any, .one .any, .one .any, .one .any, .one .any, .one .any, .one .any, .one .any, .one .any, .one .any, .one .any, .one .any, .one .any, .one .any, .one .any, .one .any, .one .any, .one .any, .one .any, .one .any, .one .any, .one .any, .one .any, .one .any, .one .any, .one .any, .one .any, .one .any, .one .any, .one .any, .one .any, .one .any, .one .any, .one .any, .one .any, .one .any, .one .any, .one .any, .one .any, .one .any, .one .any, .one .any, .one .any, .one .any, .one .any, .one .any, .one .any, .one .any], mem := [.live { segs := [.xs (.int .u16) 256 y.1], own := true }, .live { segs := [.xs (.int .i64) 512 y.2.1], own := true }] }
noncomputable def p_ref13_Mul_l3_L (N : Nat) : LT := upd (p_ref13_Mul_l6_L N) 3 (loopE p_ref13_Mul_l3_S N (p_ref13_Mul_l3_F N) p_ref13_Mul_l3_go)
theorem p_ref13_Mul_l3_ok (N : Nat) : OkAll p_ref13_Mul_E p_ref13_Mul_H N (p_ref13_Mul_l3_L N) (subs p_ref13_Mul_c) :=
  addLoop (c := theLoop 3 p_ref13_Mul_c) (p_ref13_Mul_l6_ok N) (by kernel_rfl) (fun x => by kernel_rfl) (fun β x kn ke => by kernel_rfl)
noncomputable def p_ref13_Mul_l13_S : Shape where
  h := { tmps := [.any, .any, .any, .any, .sc (.ptr 0 0 false), .sc (.ptr 1 0 false), .any, .any, .sc (.ptr 2 0 false), .any, .any, .any, .any, .any, .any, .any, .any, .any, .any, .any, .any, .any, .any, .any, .any, .any, .any, .any, .any, .any, .any, .any, .any, .any, .any, .any, .sc (.int .i64), .any, .any, .any, .any, .any, .any, .any, .any, .any, .any, .any, .any, .any, .any, .any, .any, .any, .any, .any], mem := [.live [.xs (.int .u16) (some 256)] true, .live [.xs (.int .i64) (some 512)] true, .live [.xs (.int .u16) (some 256)] true] }
  ks := [.int, .xs, .xs, .xs]
  st := fun x => { tmps := [.one .any, .one .any, .one .any, .one .any, .one (.sc (.ptr 0 0 none)), .one (.sc (.ptr 1 0 none)), .one .any, .one .any, .one (.sc (.ptr 2 0 none)), .one .any, .one .any, .one .any, .one .any, .one .any, .one .any, .one .any, .one .any, .one .any, .one .any, .one .any, .one .any, .one .any, .one .any, .one .any, .one .any, .one .any, .one .any, .one .any, .one .any, .one .any, .one .any, .one .any, .one .any, .one .any, .one .any, .one .any, .one (.sc (.int .i64 x.1)), .one .any, .one .any, .one .any, .one .any, .one .any, .one .any, .one .any, .one .any, .one .any, .one .any, .one .any, .one .any, .one .any, .one .any, .one .any, .one .any, .one .any, .one .any, .one .any], mem := [.live { segs := [.xs (.int .u16) 256 x.2.1], own := true }, .live { segs := [.xs (.int .i64) 512 x.2.2.1], own := true }, .live { segs := [.xs (.int .u16) 256 x.2.2.2.1], own := true }] }
noncomputable def p_ref13_Mul_l13_F (N : Nat) (β : Type) (x : (Int × List Int × List Int × List Int × Unit)) (kn : (Int × List Int × List Int × List Int × Unit) → Option β) (ke : ((List Int × List Int × Unit)) → Option β) : Option β :=
  if (x.1 < (256:Int)) then
    if 0 ≤ x.1 then (
    if x.1 < 512 then (
    if (x.1.toNat) < 512 then (
    if 0 ≤ (IntKind.i64.wrap (x.1 + (256:Int))) then (
    if (IntKind.i64.wrap (x.1 + (256:Int))) < 512 then (
    if ((IntKind.i64.wrap (x.1 + (256:Int))).toNat) < 512 then (
    if 0 ≤ x.1 then (
    if x.1 < 256 then (
    if (x.1.toNat) < 256 then (
    kn ((IntKind.i64.wrap (x.1 + (1:Int))), x.2.1, x.2.2.1, (List.set x.2.2.2.1 (x.1.toNat) (IntKind.u16.wrap (Int.tmod (IntKind.i64.wrap ((IntKind.i64.wrap ((Int.tmod (List.getD x.2.2.1 (x.1.toNat) 0) (3329:Int)) + (3329:Int))) - (Int.tmod (List.getD x.2.2.1 ((IntKind.i64.wrap (x.1 + (256:Int))).toNat) 0) (3329:Int)))) (3329:Int)))), ())) else none) else none) else none) else none) else none) else none) else none) else none) else none
  else
    ke (x.2.1, x.2.2.2.1, ())
noncomputable def p_ref13_Mul_l13_go : Go' ((List Int × List Int × Unit)) := fun y K => K (.exit 4) { tmps := [.one .any, .one .any, .one .any, .one .any, .one (.sc (.ptr 0 0 none)), .one .any, .one .any, .one .any, .one (.sc (.ptr 1 0 none)), .one .any, .one .any, .one .any, .one .any, .one .any, .one .any, .one .any, .one .any, .one .any, .one .any, .one .any, .one .any, .one .any, .one .any, .one .any, .one .any, .one .any, .one .any, .one .any, .one .any, .one .any, .one .any, .one .any, .one .any, .one .any, .one .any, .one .any, .one .any, .one .any, .one .any, .one .any, .one .any, .one .any, .one .any, .one .any, .one .any, .one .any, .one .any, .one .any, .one .any, .one .any, .one .any, .one .any, .one .any, .one .any, .one .any, .one .any], mem := [.live { segs := [.xs (.int .u16) 256 y.1], own := true }, .live { segs := [.xs (.int .u16) 256 y.2.1], own := true }] }
noncomputable def p_ref13_Mul_l13_L (N : Nat) : LT := upd (p_ref13_Mul_l3_L N) 13 (loopE p_ref13_Mul_l13_S N (p_ref13_Mul_l13_F N) p_ref13_Mul_l13_go)
theorem p_ref13_Mul_l13_ok (N : Nat) : OkAll p_ref13_Mul_E p_ref13_Mul_H N (p_ref13_Mul_l13_L N) (subs p_ref13_Mul_c) :=
  addLoop (c := theLoop 13 p_ref13_Mul_c) (p_ref13_Mul_l3_ok N) (by kernel_rfl) (fun x => by kernel_rfl) (fun β x kn ke => by kernel_rfl)
abbrev p_ref13_Mul_ks : List Kd := [.xs (.int .u16) 256, .xs (.int .u16) 256]
abbrev p_ref13_Mul_rs : List Kd := [.xs (.int .u16) 256]
noncomputable def p_ref13_Mul (N : Nat) (x : List Int × List Int × Unit) : Option (List Int) :=
  iter (p_ref13_Mul_l3_F N) N ((0:Int), x.1, x.2.1, (List.replicate 256 0), (List.replicate 512 0), ()) fun y2 => (
  iter (p_ref13_Mul_l13_F N) N ((0:Int), y2.1, y2.2.1, (List.replicate 256 0), ()) fun y3 => (
  some y3.2.1))
theorem p_ref13_Mul_eq (N : Nat) (x : Ds [.xs (.int .u16) 256, .xs (.int .u16) 256]) : funL p_ref13_Mul_E p_ref13_Mul_H (p_ref13_Mul_l13_L N) N Go.Proofs.Try.f42 p_ref13_Mul_c [.xs (.int .u16) 256, .xs (.int .u16) 256] [.xs (.int .u16) 256] x = p_ref13_Mul N x := by kernel_rfl
theorem p_ref13_Mul_Eok : p_ref13_Mul_E.Ok Go.Proofs.Try.prog := AE.of_ok (all_cons ty3_ok (all_cons ty22_ok (all_cons ty24_ok (all_cons ty60_ok all_nil)))) all_nil
theorem p_ref13_Mul_ok {g : Ds [.xs (.int .u16) 256, .xs (.int .u16) 256] → Option (Rs [.xs (.int .u16) 256])} (hg : ∀ x r, g x = some r → ∃ N, p_ref13_Mul N x = some r) : SigOk Go.Proofs.Try.prog 42 ⟨[.xs (.int .u16) 256, .xs (.int .u16) 256], [.xs (.int .u16) 256], g⟩ :=
  fun_of (E := p_ref13_Mul_E) (H := p_ref13_Mul_H) (L := fun N => p_ref13_Mul_l13_L N) (c := p_ref13_Mul_c) (ks := p_ref13_Mul_ks) (rs := p_ref13_Mul_rs) (F := p_ref13_Mul) (p_ref13_Mul_Eok) mix Go.Proofs.Try.func42 (by kernel_rfl) (fun N => p_ref13_Mul_l13_ok N) p_ref13_Mul_eq hg

/-! livery/liverylaw13.RingSums -/
noncomputable def p_law13_RingSums_E : AE := AE.of [(22, ty22), (24, ty24)] [(18, ⟨[], [.bool], g_law13_live⟩), (37, ⟨[.xs (.int .u16) 256], [.xs (.int .u16) 256], g_ring_Reduce⟩), (38, ⟨[.xs (.int .u16) 256], [.xs (.int .u16) 256], g_ref13_Reduce⟩), (29, ⟨[.xs (.int .u16) 256, .xs (.int .u16) 256], [.xs (.int .u16) 256], g_ring_Add⟩), (39, ⟨[.xs (.int .u16) 256, .xs (.int .u16) 256], [.xs (.int .u16) 256], g_ref13_Add⟩), (40, ⟨[.xs (.int .u16) 256, .xs (.int .u16) 256], [.xs (.int .u16) 256], g_ring_Sub⟩), (41, ⟨[.xs (.int .u16) 256, .xs (.int .u16) 256], [.xs (.int .u16) 256], g_ref13_Sub⟩), (28, ⟨[.xs (.int .u16) 256, .xs (.int .u16) 256], [.xs (.int .u16) 256], g_ring_Mul⟩), (42, ⟨[.xs (.int .u16) 256, .xs (.int .u16) 256], [.xs (.int .u16) 256], g_ref13_Mul⟩)]
noncomputable def p_law13_RingSums_H : Hints := [(3000000, [4])]
noncomputable def p_law13_RingSums_c : Code := (Go.Proofs.Try.f10).body.getD .skip
abbrev p_law13_RingSums_ks : List Kd := [.xs (.int .u16) 256, .xs (.int .u16) 256]
abbrev p_law13_RingSums_rs : List Kd := [.bool]
noncomputable def p_law13_RingSums (N : Nat) (x : List Int × List Int × Unit) : Option (Bool) :=
  (g_law13_live (())).bind fun r1 => (
  if (r1 = true) then
    (g_ring_Reduce (x.1, ())).bind fun r2 => (
    (g_ref13_Reduce (x.1, ())).bind fun r3 => (
    if (r2 = r3) then
      (g_ring_Add (x.1, x.2.1, ())).bind fun r4 => (
      (g_ref13_Add (x.1, x.2.1, ())).bind fun r5 => (
      if (r4 = r5) then
        (g_ring_Sub (x.1, x.2.1, ())).bind fun r6 => (
        (g_ref13_Sub (x.1, x.2.1, ())).bind fun r7 => (
        if (r6 = r7) then
          (g_ring_Mul (x.1, x.2.1, ())).bind fun r8 => (
          (g_ref13_Mul (x.1, x.2.1, ())).bind fun r9 => (
          some (decide (r8 = r9))))
        else
          some false))
      else
        some false))
    else
      some false))
  else
    some false)
theorem p_law13_RingSums_eq (N : Nat) (x : Ds [.xs (.int .u16) 256, .xs (.int .u16) 256]) : funL p_law13_RingSums_E p_law13_RingSums_H (LT.nil) N Go.Proofs.Try.f10 p_law13_RingSums_c [.xs (.int .u16) 256, .xs (.int .u16) 256] [.bool] x = p_law13_RingSums N x := by kernel_rfl
theorem p_law13_RingSums_Eok (he_law13_live : SigOk Go.Proofs.Try.prog 18 ⟨[], [.bool], g_law13_live⟩) (he_ring_Reduce : SigOk Go.Proofs.Try.prog 37 ⟨[.xs (.int .u16) 256], [.xs (.int .u16) 256], g_ring_Reduce⟩) (he_ref13_Reduce : SigOk Go.Proofs.Try.prog 38 ⟨[.xs (.int .u16) 256], [.xs (.int .u16) 256], g_ref13_Reduce⟩) (he_ring_Add : SigOk Go.Proofs.Try.prog 29 ⟨[.xs (.int .u16) 256, .xs (.int .u16) 256], [.xs (.int .u16) 256], g_ring_Add⟩) (he_ref13_Add : SigOk Go.Proofs.Try.prog 39 ⟨[.xs (.int .u16) 256, .xs (.int .u16) 256], [.xs (.int .u16) 256], g_ref13_Add⟩) (he_ring_Sub : SigOk Go.Proofs.Try.prog 40 ⟨[.xs (.int .u16) 256, .xs (.int .u16) 256], [.xs (.int .u16) 256], g_ring_Sub⟩) (he_ref13_Sub : SigOk Go.Proofs.Try.prog 41 ⟨[.xs (.int .u16) 256, .xs (.int .u16) 256], [.xs (.int .u16) 256], g_ref13_Sub⟩) (he_ring_Mul : SigOk Go.Proofs.Try.prog 28 ⟨[.xs (.int .u16) 256, .xs (.int .u16) 256], [.xs (.int .u16) 256], g_ring_Mul⟩) (he_ref13_Mul : SigOk Go.Proofs.Try.prog 42 ⟨[.xs (.int .u16) 256, .xs (.int .u16) 256], [.xs (.int .u16) 256], g_ref13_Mul⟩) : p_law13_RingSums_E.Ok Go.Proofs.Try.prog := AE.of_ok (all_cons ty22_ok (all_cons ty24_ok all_nil)) (all_cons ⟨he_law13_live, enters_law13_live⟩ (all_cons ⟨he_ring_Reduce, enters_ring_Reduce⟩ (all_cons ⟨he_ref13_Reduce, enters_ref13_Reduce⟩ (all_cons ⟨he_ring_Add, enters_ring_Add⟩ (all_cons ⟨he_ref13_Add, enters_ref13_Add⟩ (all_cons ⟨he_ring_Sub, enters_ring_Sub⟩ (all_cons ⟨he_ref13_Sub, enters_ref13_Sub⟩ (all_cons ⟨he_ring_Mul, enters_ring_Mul⟩ (all_cons ⟨he_ref13_Mul, enters_ref13_Mul⟩ all_nil)))))))))
theorem p_law13_RingSums_ok (he_law13_live : SigOk Go.Proofs.Try.prog 18 ⟨[], [.bool], g_law13_live⟩) (he_ring_Reduce : SigOk Go.Proofs.Try.prog 37 ⟨[.xs (.int .u16) 256], [.xs (.int .u16) 256], g_ring_Reduce⟩) (he_ref13_Reduce : SigOk Go.Proofs.Try.prog 38 ⟨[.xs (.int .u16) 256], [.xs (.int .u16) 256], g_ref13_Reduce⟩) (he_ring_Add : SigOk Go.Proofs.Try.prog 29 ⟨[.xs (.int .u16) 256, .xs (.int .u16) 256], [.xs (.int .u16) 256], g_ring_Add⟩) (he_ref13_Add : SigOk Go.Proofs.Try.prog 39 ⟨[.xs (.int .u16) 256, .xs (.int .u16) 256], [.xs (.int .u16) 256], g_ref13_Add⟩) (he_ring_Sub : SigOk Go.Proofs.Try.prog 40 ⟨[.xs (.int .u16) 256, .xs (.int .u16) 256], [.xs (.int .u16) 256], g_ring_Sub⟩) (he_ref13_Sub : SigOk Go.Proofs.Try.prog 41 ⟨[.xs (.int .u16) 256, .xs (.int .u16) 256], [.xs (.int .u16) 256], g_ref13_Sub⟩) (he_ring_Mul : SigOk Go.Proofs.Try.prog 28 ⟨[.xs (.int .u16) 256, .xs (.int .u16) 256], [.xs (.int .u16) 256], g_ring_Mul⟩) (he_ref13_Mul : SigOk Go.Proofs.Try.prog 42 ⟨[.xs (.int .u16) 256, .xs (.int .u16) 256], [.xs (.int .u16) 256], g_ref13_Mul⟩) {g : Ds [.xs (.int .u16) 256, .xs (.int .u16) 256] → Option (Rs [.bool])} (hg : ∀ x r, g x = some r → ∃ N, p_law13_RingSums N x = some r) : SigOk Go.Proofs.Try.prog 10 ⟨[.xs (.int .u16) 256, .xs (.int .u16) 256], [.bool], g⟩ :=
  fun_of (E := p_law13_RingSums_E) (H := p_law13_RingSums_H) (L := fun N => LT.nil) (c := p_law13_RingSums_c) (ks := p_law13_RingSums_ks) (rs := p_law13_RingSums_rs) (F := p_law13_RingSums) (p_law13_RingSums_Eok he_law13_live he_ring_Reduce he_ref13_Reduce he_ring_Add he_ref13_Add he_ring_Sub he_ref13_Sub he_ring_Mul he_ref13_Mul) mix Go.Proofs.Try.func10 (by kernel_rfl) (fun N => OkAll.nil) p_law13_RingSums_eq hg
end Go.Ax.TryP
/-! ### The product, as the document reckons it: the printed function -/
namespace Go.Ax.TryP

def sums (h : Nat → Int) : List Int := (List.range 512).map h
theorem sums_getD {h : Nat → Int} {i : Nat} (hi : i < 512) : (sums h).getD i 0 = h i := map_range_getD hi
theorem sums_congr {h h' : Nat → Int} (e : ∀ i, i < 512 → h i = h' i) : sums h = sums h' := List.map_congr_left fun i hi => e i (List.mem_range.1 hi)
theorem sums_set {h h' : Nat → Int} {j : Nat} {v : Int} (hj : h' j = v) (e : ∀ i, i < 512 → i ≠ j → h' i = h i) : (sums h).set j v = sums h' := by
  apply List.ext_getElem?
  intro i
  rw [List.getElem?_set]
  by_cases hij : j = i
  · subst hij
    simp only [if_true]
    by_cases hl : j < 512
    · simp [sums, hl, hj]
    · simp [sums, hl]
  · rw [if_neg hij]
    by_cases hl : i < 512
    · simp [sums, hl, e i hl (Ne.symm hij)]
    · simp [sums, hl]
theorem map_zero (n : Nat) : (List.range n).map (fun _ => (0:Int)) = List.replicate n 0 := by rw [List.map_const', List.length_range]
def cvm (a b : List Int) (i k n : Nat) : Int := if i ≤ n ∧ n < i + k then cv a b (i + 1) n else cv a b i n

theorem q_ref13_Mul : ∀ x r, g_ref13_Mul x = some r → ∃ N, p_ref13_Mul N x = some r := by
  refine Spec_of (ks := p_ref13_Mul_ks) (rs := p_ref13_Mul_rs) fun x hw _ => ⟨300, ?_⟩
  obtain ⟨(a : List Int), (b : List Int), u⟩ := x
  obtain ⟨ha, hb⟩ := wf_pp.1 hw
  unfold p_ref13_Mul
  have hs0 : List.replicate 512 (0:Int) = sums (cv a b 0) := ((sums_congr (h := cv a b 0) (h' := fun _ => 0) fun _ _ => rfl).trans (map_zero 512)).symm
  rw [hs0]
  refine (iter_run (F := p_ref13_Mul_l3_F 300) (s := fun i => ((i : Int), a, b, List.replicate 256 0, sums (cv a b i), ())) (y := (List.replicate 256 0, sums (cv a b 256), ())) 256 ?_ ?_ 300 (by omega)).trans ?_
  · intro i hi kn
    unfold p_ref13_Mul_l3_F
    dsimp only
    rw [if_pos (by omega)]
    have e0 : sums (cv a b i) = sums (cvm a b i 0) := sums_congr fun n _ => by unfold cvm; rw [if_neg (by omega)]
    rw [e0]
    refine (iter_run (F := p_ref13_Mul_l6_F 300) (s := fun k => ((i : Int), (i : Int), (k : Int), a, b, List.replicate 256 0, sums (cvm a b i k), ())) (y := ((i : Int), a, b, List.replicate 256 0, sums (cv a b (i + 1)), ())) 256 ?_ ?_ 300 (by omega)).trans ?_
    · intro k hk kn
      have h1 := ha.at i; have h2 := hb.at k
      have e1 : (fRed a).getD i 0 = a.getD i 0 % 3329 := by rw [fRed, poly_getD hi]
      have e2 : (fRed b).getD k 0 = b.getD k 0 % 3329 := by rw [fRed, poly_getD hk]
      have ec : (i : Int) + (k : Int) = ((i + k : Nat) : Int) := by omega
      have eg : (sums (cvm a b i k)).getD (i + k) 0 = cv a b i (i + k) := by rw [sums_getD (by omega), cvm, if_neg (by omega)]
      have hm := mul_bound (a := a.getD i 0 % 3329) (b := b.getD k 0 % 3329) (by omega) (by omega)
      have hcv := cv_bound a b (i + k) i
      have hcv2 : cv a b i (i + k) ≤ 2835349504 := by
        have : (i : Int) * 11075584 ≤ 256 * 11075584 := by omega
        omega
      unfold p_ref13_Mul_l6_F
      simp (disch := omega) only [if_pos, ec, wrap_i64, Int.toNat_natCast, eg, tmod_pos]
      rw [sums_set (h' := cvm a b i (k + 1)) ?_ ?_]
      · rfl
      · unfold cvm
        rw [if_pos (by omega), cv_succ, if_pos (by omega), show i + k - i = k by omega, e1, e2]
      · intro n hn hne
        unfold cvm
        by_cases hc : i ≤ n ∧ n < i + k
        · rw [if_pos hc, if_pos (by omega)]
        · rw [if_neg hc, if_neg (by omega)]
    · intro kn
      unfold p_ref13_Mul_l6_F
      dsimp only
      rw [if_neg (by decide)]
      have : sums (cvm a b i 256) = sums (cv a b (i + 1)) := sums_congr fun n _ => by
        unfold cvm
        by_cases hc : i ≤ n ∧ n < i + 256
        · rw [if_pos hc]
        · rw [if_neg hc, cv_succ, if_neg hc]
      rw [this]
    · simp (disch := omega) only [wrap_i64, Int.natCast_add, Int.cast_ofNat_Int]
  · intro kn
    unfold p_ref13_Mul_l3_F
    dsimp only
    rw [if_neg (by decide)]
  dsimp only
  refine (iter_run (F := p_ref13_Mul_l13_F 300) (s := fun i => ((i : Int), List.replicate 256 0, sums (cv a b 256), part (fun j => (cv a b 256 j - cv a b 256 (j + 256)) % 3329) i (List.replicate 256 0), ())) (y := (List.replicate 256 0, fMulR a b, ())) 256 ?_ ?_ 300 (by omega)).trans ?_
  · intro i hi kn
    have g1 : (sums (cv a b 256)).getD i 0 = cv a b 256 i := sums_getD (by omega)
    have g2 : (sums (cv a b 256)).getD (i + 256) 0 = cv a b 256 (i + 256) := sums_getD (by omega)
    have ec : (i : Int) + 256 = ((i + 256 : Nat) : Int) := by omega
    have h1 := cv_bound a b i 256
    have h2 := cv_bound a b (i + 256) 256
    generalize hx : cv a b 256 i = X at *
    generalize hy : cv a b 256 (i + 256) = Y at *
    unfold p_ref13_Mul_l13_F
    simp (disch := omega) only [if_pos, ec, wrap_i64, Int.toNat_natCast, g1, g2, tmod_pos, wrap_u16]
    rw [part_set' (h := fun j => (cv a b 256 j - cv a b 256 (j + 256)) % 3329) (i := i) (by rw [List.length_replicate]; omega) (by rw [hx, hy]; omega)]
    rfl
  · intro kn
    unfold p_ref13_Mul_l13_F
    dsimp only
    rw [if_neg (by decide), part_all (n := 256) (by rw [List.length_replicate])]
    rfl
  · rw [fMulR_eq]
theorem at42 {a b : List Int} (ha : u16s 256 a) (hb : u16s 256 b) : g_ref13_Mul (a, b, ()) = some (fMul a b) := Spec_at (ks := p_ref13_Mul_ks) (rs := p_ref13_Mul_rs) (wf_pp.2 ⟨ha, hb⟩) trivial
theorem q_law13_RingSums : ∀ x r, g_law13_RingSums x = some r → ∃ N, p_law13_RingSums N x = some r := by
  refine Spec_of (ks := p_law13_RingSums_ks) (rs := p_law13_RingSums_rs) fun x hw _ => ⟨0, ?_⟩
  obtain ⟨(a : List Int), (b : List Int), u⟩ := x
  obtain ⟨ha, hb⟩ := wf_pp.1 hw
  unfold p_law13_RingSums
  simp only [at18, at37 ha, at38 ha, at29 ha hb, at39 ha hb, at40 ha hb, at41 ha hb, at28 ha hb, at42 ha hb, Option.bind_some, if_true, decide_true]
theorem s_ref13_Reduce : SigOk Go.Proofs.Try.prog 38 ⟨p_ref13_Reduce_ks, p_ref13_Reduce_rs, g_ref13_Reduce⟩ := p_ref13_Reduce_ok q_ref13_Reduce
theorem s_ref13_Mul : SigOk Go.Proofs.Try.prog 42 ⟨p_ref13_Mul_ks, p_ref13_Mul_rs, g_ref13_Mul⟩ := p_ref13_Mul_ok q_ref13_Mul
theorem s_law13_RingSums : SigOk Go.Proofs.Try.prog 10 ⟨p_law13_RingSums_ks, p_law13_RingSums_rs, g_law13_RingSums⟩ := p_law13_RingSums_ok s_law13_live s_ring_Reduce s_ref13_Reduce s_ring_Add s_ref13_Add s_ring_Sub s_ref13_Sub s_ring_Mul s_ref13_Mul q_law13_RingSums
end Go.Ax.TryP
