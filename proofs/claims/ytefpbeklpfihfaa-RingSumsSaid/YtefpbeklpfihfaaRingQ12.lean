/- A part of the proof: RingQ12. -/
import Derived.Test.YtefpbeklpfihfaaRingQ11
/-! ### The product, as the document reckons it -/
namespace Go.Ax.TryP

def cv (a b : List Int) (i n : Nat) : Int := sum i fun u => if u ≤ n ∧ n < u + 256 then (fRed a).getD u 0 * (fRed b).getD (n - u) 0 else 0
theorem cv_bound (a b : List Int) (n : Nat) : ∀ i, 0 ≤ cv a b i n ∧ cv a b i n ≤ i * 11075584
  | 0 => by simp [cv, sum]
  | i + 1 => by
    have ih := cv_bound a b n i
    have h1 := fRed_lt a i
    have h2 := fRed_lt b (n - i)
    have hm := mul_bound (a := (fRed a).getD i 0) (b := (fRed b).getD (n - i) 0) (by omega) (by omega)
    unfold cv at ih ⊢
    rw [sum]
    split <;> omega
theorem cv_succ (a b : List Int) (i n : Nat) : cv a b (i + 1) n = if i ≤ n ∧ n < i + 256 then cv a b i n + (fRed a).getD i 0 * (fRed b).getD (n - i) 0 else cv a b i n := by
  unfold cv
  rw [sum]
  split <;> omega
def fMulR (a b : List Int) : List Int := poly fun j => (cv a b 256 j - cv a b 256 (j + 256)) % 3329

theorem shift_sum {v : Nat} (hv : v ≤ 128) (g : Nat → Int) (p : Int) : sum 256 (fun j => if v ≤ j ∧ j < v + 128 then g (j - v) * p ^ j else 0) = p ^ v * sum 128 fun k => g k * p ^ k := by
  rw [show 256 = v + (128 + (128 - v)) by omega, sum_split, sum_split, ← sum_mul]
  rw [sum_congr (n := v) (g := fun _ => 0) (fun i hi => if_neg (by omega)), sum_zero]
  rw [sum_congr (n := 128 - v) (g := fun _ => 0) (fun i hi => if_neg (by omega)), sum_zero]
  rw [Int.zero_add, Int.add_zero]
  refine sum_congr fun i hi => ?_
  rw [if_pos (by omega), show v + i - v = i by omega, Int.pow_add]
  grind

theorem root_pow_all : (List.range 128).all (fun i => (root i ^ 128 + 1) % 3329 == 0) = true := by decide +kernel
theorem root_pow {i : Nat} (hi : i < 128) : cg (root i ^ 128) (-1) := by
  have h3 := eq_of_beq (List.all_eq_true.1 root_pow_all i (List.mem_range.2 hi))
  exact ⟨(root i ^ 128 + 1) / 3329, by omega⟩

def E (a : List Int) (e : Nat) (p : Int) : Int := ev (fRed a) 128 2 e p
theorem E_def (a : List Int) (e : Nat) (p : Int) : E a e p = sum 128 fun k => (fRed a).getD (k * 2 + e) 0 * p ^ k := rfl

theorem conv_even (a b : List Int) (p : Int) : sum 256 (fun j => cv a b 256 (2 * j) * p ^ j) = E a 0 p * E b 0 p + E a 1 p * E b 1 p * p := by
  have h1 : sum 256 (fun j => cv a b 256 (2 * j) * p ^ j) = sum 256 fun u => (fRed a).getD u 0 * sum 256 fun j => if u ≤ 2 * j ∧ 2 * j < u + 256 then (fRed b).getD (2 * j - u) 0 * p ^ j else 0 := by
    rw [show (fun u => (fRed a).getD u 0 * sum 256 fun j => if u ≤ 2 * j ∧ 2 * j < u + 256 then (fRed b).getD (2 * j - u) 0 * p ^ j else 0) = fun u => sum 256 fun j => (fRed a).getD u 0 * (if u ≤ 2 * j ∧ 2 * j < u + 256 then (fRed b).getD (2 * j - u) 0 * p ^ j else 0) from funext fun u => (sum_mul _ _ _).symm]
    rw [sum_swap]
    refine sum_congr fun j _ => ?_
    unfold cv
    rw [← sum_mul_right]
    refine sum_congr fun u _ => ?_
    split <;> grind
  rw [h1, show 256 = 2 * 128 from rfl, sum_two]
  have h2 : ∀ v, v < 128 → (fRed a).getD (2 * v) 0 * sum (2 * 128) (fun j => if 2 * v ≤ 2 * j ∧ 2 * j < 2 * v + 2 * 128 then (fRed b).getD (2 * j - 2 * v) 0 * p ^ j else 0) + (fRed a).getD (2 * v + 1) 0 * sum (2 * 128) (fun j => if 2 * v + 1 ≤ 2 * j ∧ 2 * j < 2 * v + 1 + 2 * 128 then (fRed b).getD (2 * j - (2 * v + 1)) 0 * p ^ j else 0)
      = (fRed a).getD (v * 2 + 0) 0 * p ^ v * E b 0 p + (fRed a).getD (v * 2 + 1) 0 * p ^ v * (E b 1 p * p) := by
    intro v hv
    have s1 := shift_sum (v := v) (by omega) (fun k => (fRed b).getD (k * 2 + 0) 0) p
    have s2 := shift_sum (v := v + 1) (by omega) (fun k => (fRed b).getD (k * 2 + 1) 0) p
    rw [sum_congr (n := 2 * 128) (g := fun j => if v ≤ j ∧ j < v + 128 then (fRed b).getD ((j - v) * 2 + 0) 0 * p ^ j else 0) (fun j _ => by
      by_cases hc : v ≤ j ∧ j < v + 128
      · rw [if_pos hc, if_pos (by omega), show 2 * j - 2 * v = (j - v) * 2 + 0 by omega]
      · rw [if_neg hc, if_neg (by omega)])]
    rw [sum_congr (n := 2 * 128) (f := fun j => if 2 * v + 1 ≤ 2 * j ∧ 2 * j < 2 * v + 1 + 2 * 128 then (fRed b).getD (2 * j - (2 * v + 1)) 0 * p ^ j else 0) (g := fun j => if v + 1 ≤ j ∧ j < v + 1 + 128 then (fRed b).getD ((j - (v + 1)) * 2 + 1) 0 * p ^ j else 0) (fun j _ => by
      by_cases hc : v + 1 ≤ j ∧ j < v + 1 + 128
      · rw [if_pos hc, if_pos (by omega), show 2 * j - (2 * v + 1) = (j - (v + 1)) * 2 + 1 by omega]
      · rw [if_neg hc, if_neg (by omega)])]
    rw [s1, s2, ← E_def, ← E_def, Int.pow_succ, show 2 * v = v * 2 + 0 by omega, show v * 2 + 0 + 1 = v * 2 + 1 by omega]
    grind
  rw [sum_congr h2, sum_add, sum_mul_right, sum_mul_right, ← E_def, ← E_def]
  grind
theorem conv_odd (a b : List Int) (p : Int) : sum 256 (fun j => cv a b 256 (2 * j + 1) * p ^ j) = E a 0 p * E b 1 p + E a 1 p * E b 0 p := by
  have h1 : sum 256 (fun j => cv a b 256 (2 * j + 1) * p ^ j) = sum 256 fun u => (fRed a).getD u 0 * sum 256 fun j => if u ≤ 2 * j + 1 ∧ 2 * j + 1 < u + 256 then (fRed b).getD (2 * j + 1 - u) 0 * p ^ j else 0 := by
    rw [show (fun u => (fRed a).getD u 0 * sum 256 fun j => if u ≤ 2 * j + 1 ∧ 2 * j + 1 < u + 256 then (fRed b).getD (2 * j + 1 - u) 0 * p ^ j else 0) = fun u => sum 256 fun j => (fRed a).getD u 0 * (if u ≤ 2 * j + 1 ∧ 2 * j + 1 < u + 256 then (fRed b).getD (2 * j + 1 - u) 0 * p ^ j else 0) from funext fun u => (sum_mul _ _ _).symm]
    rw [sum_swap]
    refine sum_congr fun j _ => ?_
    unfold cv
    rw [← sum_mul_right]
    refine sum_congr fun u _ => ?_
    split <;> grind
  rw [h1, show 256 = 2 * 128 from rfl, sum_two]
  have h2 : ∀ v, v < 128 → (fRed a).getD (2 * v) 0 * sum (2 * 128) (fun j => if 2 * v ≤ 2 * j + 1 ∧ 2 * j + 1 < 2 * v + 2 * 128 then (fRed b).getD (2 * j + 1 - 2 * v) 0 * p ^ j else 0) + (fRed a).getD (2 * v + 1) 0 * sum (2 * 128) (fun j => if 2 * v + 1 ≤ 2 * j + 1 ∧ 2 * j + 1 < 2 * v + 1 + 2 * 128 then (fRed b).getD (2 * j + 1 - (2 * v + 1)) 0 * p ^ j else 0)
      = (fRed a).getD (v * 2 + 0) 0 * p ^ v * E b 1 p + (fRed a).getD (v * 2 + 1) 0 * p ^ v * E b 0 p := by
    intro v hv
    have s1 := shift_sum (v := v) (by omega) (fun k => (fRed b).getD (k * 2 + 1) 0) p
    have s2 := shift_sum (v := v) (by omega) (fun k => (fRed b).getD (k * 2 + 0) 0) p
    rw [sum_congr (n := 2 * 128) (g := fun j => if v ≤ j ∧ j < v + 128 then (fRed b).getD ((j - v) * 2 + 1) 0 * p ^ j else 0) (fun j _ => by
      by_cases hc : v ≤ j ∧ j < v + 128
      · rw [if_pos hc, if_pos (by omega), show 2 * j + 1 - 2 * v = (j - v) * 2 + 1 by omega]
      · rw [if_neg hc, if_neg (by omega)])]
    rw [sum_congr (n := 2 * 128) (f := fun j => if 2 * v + 1 ≤ 2 * j + 1 ∧ 2 * j + 1 < 2 * v + 1 + 2 * 128 then (fRed b).getD (2 * j + 1 - (2 * v + 1)) 0 * p ^ j else 0) (g := fun j => if v ≤ j ∧ j < v + 128 then (fRed b).getD ((j - v) * 2 + 0) 0 * p ^ j else 0) (fun j _ => by
      by_cases hc : v ≤ j ∧ j < v + 128
      · rw [if_pos hc, if_pos (by omega), show 2 * j + 1 - (2 * v + 1) = (j - v) * 2 + 0 by omega]
      · rw [if_neg hc, if_neg (by omega)])]
    rw [s1, s2, ← E_def, ← E_def, show 2 * v = v * 2 + 0 by omega, show v * 2 + 0 + 1 = v * 2 + 1 by omega]
    grind
  rw [sum_congr h2, sum_add, sum_mul_right, sum_mul_right, ← E_def, ← E_def]

theorem ev_mulR (a b : List Int) {i e : Nat} (hi : i < 128) (he : e < 2) : cg (ev (fMulR a b) 128 2 e (root i)) (sum 256 fun j => cv a b 256 (2 * j + e) * root i ^ j) := by
  rw [show 256 = 128 + 128 from rfl, sum_split, ← sum_add]
  refine sum_cg fun j hj => ?_
  rw [fMulR, poly_getD (by omega), show 2 * (128 + j) + e = j * 2 + e + 256 by omega, show 2 * j + e = j * 2 + e by omega, Int.pow_add]
  refine ((cg.mod _).mul (cg.refl _)).trans (cg.symm (((cg.refl _).add ((cg.refl _).mul ((root_pow hi).mul (cg.refl _)))).trans (cg.of_eq (by grind))))
theorem fMulR_eq (a b : List Int) : fMulR a b = fMul a b := by
  have hr : red (fMulR a b) := red_poly fun i _ => by omega
  have key : fNtt (fMulR a b) = fMulN (fNtt a) (fNtt b) := by
    refine pairs_eq (red_fNtt _) (red_fMulN _ _) fun i hi => ⟨?_, ?_⟩
    · have h0 := ntt_ev (fMulR a b) hi (show 0 < 2 by omega)
      rw [fRed_red hr] at h0
      have a0 := ntt_ev a hi (show 0 < 2 by omega); have a1 := ntt_ev a hi (show 1 < 2 by omega)
      have b0 := ntt_ev b hi (show 0 < 2 by omega); have b1 := ntt_ev b hi (show 1 < 2 by omega)
      refine (h0.trans ((ev_mulR a b hi (by omega)).trans (cg.of_eq (conv_even a b (root i))))).trans (cg.symm ((mv_even hi _ _).trans ?_))
      exact (a0.mul b0).add ((a1.mul b1).mul (cg.refl _))
    · have h0 := ntt_ev (fMulR a b) hi (show 1 < 2 by omega)
      rw [fRed_red hr] at h0
      have a0 := ntt_ev a hi (show 0 < 2 by omega); have a1 := ntt_ev a hi (show 1 < 2 by omega)
      have b0 := ntt_ev b hi (show 0 < 2 by omega); have b1 := ntt_ev b hi (show 1 < 2 by omega)
      refine (h0.trans ((ev_mulR a b hi (by omega)).trans (cg.of_eq (conv_odd a b (root i))))).trans (cg.symm ((mv_odd hi _ _).trans ?_))
      exact (a0.mul b1).add (a1.mul b0)
  rw [fMul, ← key, fInv_fNtt, fRed_red hr]
end Go.Ax.TryP
