/- A part of the proof: RingQ11. -/
import Derived.Test.YtefpbeklpfihfaaRingQ10
/-! ### What the transform's numbers are -/
namespace Go.Ax.TryP

def sum : Nat → (Nat → Int) → Int
  | 0, _ => 0
  | n + 1, f => sum n f + f n
theorem sum_congr {n : Nat} {f g : Nat → Int} (h : ∀ i, i < n → f i = g i) : sum n f = sum n g := by
  induction n with
  | zero => rfl
  | succ n ih => rw [sum, sum, ih fun i hi => h i (by omega), h n (by omega)]
theorem sum_cg {n : Nat} {f g : Nat → Int} (h : ∀ i, i < n → cg (f i) (g i)) : cg (sum n f) (sum n g) := by
  induction n with
  | zero => exact cg.refl _
  | succ n ih => exact (ih fun i hi => h i (by omega)).add (h n (by omega))
theorem sum_add (n : Nat) (f g : Nat → Int) : sum n (fun i => f i + g i) = sum n f + sum n g := by
  induction n with
  | zero => rfl
  | succ n ih => rw [sum, sum, sum, ih]; omega
theorem sum_mul (n : Nat) (c : Int) (f : Nat → Int) : sum n (fun i => c * f i) = c * sum n f := by
  induction n with
  | zero => simp [sum]
  | succ n ih => rw [sum, sum, ih]; grind
theorem sum_mul_right (n : Nat) (c : Int) (f : Nat → Int) : sum n (fun i => f i * c) = sum n f * c := by
  induction n with
  | zero => simp [sum]
  | succ n ih => rw [sum, sum, ih]; grind
theorem sum_zero (n : Nat) : sum n (fun _ => 0) = 0 := by
  induction n with
  | zero => rfl
  | succ n ih => rw [sum, ih]; rfl
theorem sum_swap (n m : Nat) (f : Nat → Nat → Int) : sum n (fun i => sum m (f i)) = sum m (fun j => sum n fun i => f i j) := by
  induction n with
  | zero => simp [sum, sum_zero]
  | succ n ih => rw [sum, ih, ← sum_add]; rfl
/-- Pairs of terms. -/
theorem sum_two (n : Nat) (f : Nat → Int) : sum (2 * n) f = sum n fun i => f (2 * i) + f (2 * i + 1) := by
  induction n with
  | zero => rfl
  | succ n ih => rw [show 2 * (n + 1) = 2 * n + 1 + 1 by omega, sum, sum, ih, sum]; omega
theorem sum_split (n m : Nat) (f : Nat → Int) : sum (n + m) f = sum n f + sum m fun i => f (n + i) := by
  induction m with
  | zero => simp [sum]
  | succ m ih => rw [← Nat.add_assoc, sum, ih, sum]; omega
/-- One term alone. -/
theorem sum_one {n k : Nat} (hk : k < n) (f : Nat → Int) : sum n (fun i => if i = k then f i else 0) = f k := by
  induction n with
  | zero => omega
  | succ n ih =>
    rw [sum]
    by_cases h : n = k
    · subst h
      rw [if_pos rfl, sum_congr (g := fun _ => 0) (fun i hi => if_neg (by omega)), sum_zero]; omega
    · rw [ih (by omega), if_neg h]; omega

/-- The block's number: block b of 2^t. -/
def cOf : Nat → Nat → Int
  | 0, _ => -1
  | t + 1, b => if b % 2 = 0 then zeta (2 ^ t + b / 2) else - zeta (2 ^ t + b / 2)
theorem cOf_sq_all : (List.range 7).all (fun t => (List.range (2 ^ t)).all fun b => (zeta (2 ^ t + b) * zeta (2 ^ t + b) - cOf t b) % 3329 == 0) = true := by decide +kernel
theorem cOf_sq {t b : Nat} (ht : t < 7) (hb : b < 2 ^ t) : cg (cOf t b) (zeta (2 ^ t + b) * zeta (2 ^ t + b)) := by
  have h1 := List.all_eq_true.1 cOf_sq_all t (List.mem_range.2 ht)
  have h3 := eq_of_beq (List.all_eq_true.1 h1 b (List.mem_range.2 hb))
  exact ⟨-((zeta (2 ^ t + b) * zeta (2 ^ t + b) - cOf t b) / 3329), by omega⟩
theorem cOf_root_all : (List.range 128).all (fun i => (cOf 7 i - root i) % 3329 == 0) = true := by decide +kernel
theorem cOf_root {i : Nat} (hi : i < 128) : cg (cOf 7 i) (root i) := by
  have h3 := eq_of_beq (List.all_eq_true.1 cOf_root_all i (List.mem_range.2 hi))
  exact ⟨(cOf 7 i - root i) / 3329, by omega⟩
theorem cg.pow {x y : Int} (h : cg x y) (n : Nat) : cg (x ^ n) (y ^ n) := by
  induction n with
  | zero => rw [Int.pow_zero, Int.pow_zero]; exact cg.refl _
  | succ n ih => rw [Int.pow_succ, Int.pow_succ]; exact ih.mul h

/-- Remainder of the polynomial modulo X^L - c, at place r. -/
def ev (a : List Int) (n L r : Nat) (c : Int) : Int := sum n fun j => a.getD (j * L + r) 0 * c ^ j
theorem ev_step (a : List Int) (n s r : Nat) (z : Int) : ev a (2 * n) s r z = ev a n (2 * s) r (z * z) + z * ev a n (2 * s) (r + s) (z * z) := by
  unfold ev
  rw [sum_two, ← sum_mul, ← sum_add]
  refine sum_congr fun i _ => ?_
  rw [show 2 * i * s + r = i * (2 * s) + r by grind, show (2 * i + 1) * s + r = i * (2 * s) + (r + s) by grind]
  rw [Int.pow_succ, Int.pow_mul, show z ^ 2 = z * z by rw [Int.pow_succ, Int.pow_succ, Int.pow_zero, Int.one_mul]]
  grind
theorem ev_cg {a : List Int} {n L r : Nat} {c d : Int} (h : cg c d) : cg (ev a n L r c) (ev a n L r d) := sum_cg fun j _ => (cg.refl _).mul (h.pow j)

theorem stage_ev (a : List Int) : ∀ t, t ≤ 7 → ∀ b r, b < 2 ^ t → r < 256 / 2 ^ t → cg ((nStage a t).getD (256 / 2 ^ t * b + r) 0) (ev (fRed a) (2 ^ t) (256 / 2 ^ t) r (cOf t b))
  | 0, _, b, r, hb, _ => by
    have : b = 0 := by simpa using hb
    subst this
    simp only [nStage, Nat.pow_zero, ev, sum, Int.pow_zero]
    exact cg.of_eq (by simp)
  | t + 1, ht, b, r, hb, hr => by
    obtain ⟨f1, f2, _⟩ := nstage_facts t (by omega)
    have e1 : 256 / 2 ^ (t + 1) = 128 / 2 ^ t := (by decide : ∀ t, t < 7 → 256 / 2 ^ (t + 1) = 128 / 2 ^ t) t (by omega)
    have e2 : 256 / 2 ^ t = 2 * (128 / 2 ^ t) := (by decide : ∀ t, t < 7 → 256 / 2 ^ t = 2 * (128 / 2 ^ t)) t (by omega)
    rw [e1] at hr ⊢
    have ih := stage_ev a t (by omega) (b / 2)
    rw [e2] at ih
    have hb2 : b / 2 < 2 ^ t := by rw [Nat.pow_succ] at hb; omega
    have i1 := ih r hb2 (by omega)
    have i2 := ih (r + 128 / 2 ^ t) hb2 (by omega)
    have hsq := cOf_sq (by omega) hb2
    have p2 : 2 ^ (t + 1) = 2 * 2 ^ t := by rw [Nat.pow_succ, Nat.mul_comm]
    rw [nStage, p2]
    generalize hS : 128 / 2 ^ t = s at *
    rw [← Nat.add_assoc] at i2
    rcases Nat.mod_two_eq_zero_or_one b with hm | hm
    · have hc : cOf (t + 1) b = zeta (2 ^ t + b / 2) := by rw [cOf, if_pos hm]
      have hidx : s * b + r = 2 * s * (b / 2) + r := by
        have : b = 2 * (b / 2) := by omega
        conv => lhs; rw [this]
        grind
      rw [hidx, hc, ev_step]
      refine (nl_lo f1 f2 hb2 hr _).trans ((i1.trans (ev_cg hsq)).add ((cg.refl _).mul (i2.trans (ev_cg hsq))))
    · have hc : cOf (t + 1) b = - zeta (2 ^ t + b / 2) := by rw [cOf, if_neg (by omega)]
      have hidx : s * b + r = 2 * s * (b / 2) + r + s := by
        have : b = 2 * (b / 2) + 1 := by omega
        conv => lhs; rw [this]
        grind
      have hneg : (- zeta (2 ^ t + b / 2)) * (- zeta (2 ^ t + b / 2)) = zeta (2 ^ t + b / 2) * zeta (2 ^ t + b / 2) := by grind
      rw [hidx, hc, ev_step, hneg]
      refine (nl_hi f1 f2 hb2 hr _).trans (((i1.trans (ev_cg hsq)).sub ((cg.refl _).mul (i2.trans (ev_cg hsq)))).trans (cg.of_eq ?_))
      grind

/-- The transform, pair by pair: remainders modulo X^2 - root. -/
theorem ntt_ev (a : List Int) {i r : Nat} (hi : i < 128) (hr : r < 2) : cg ((fNtt a).getD (2 * i + r) 0) (ev (fRed a) 128 2 r (root i)) := by
  rw [fNtt_eq]
  exact (stage_ev a 7 (Nat.le_refl _) i r hi hr).trans (ev_cg (cOf_root hi))
end Go.Ax.TryP
