/- A part of the proof: RingQ8. -/
import Derived.Test.YtefpbeklpfihfaaRingQ7
/-! ### The transform and its inverse, as mathematics -/
namespace Go.Ax.TryP

/-- Alike modulo 3329. -/
def cg (x y : Int) : Prop := ∃ k : Int, x = y + 3329 * k
theorem cg.refl (x : Int) : cg x x := ⟨0, by omega⟩
theorem cg.of_eq {x y : Int} (h : x = y) : cg x y := by subst h; exact cg.refl _
theorem cg.symm {x y : Int} (h : cg x y) : cg y x := by obtain ⟨k, h⟩ := h; exact ⟨-k, by omega⟩
theorem cg.trans {x y z : Int} (h : cg x y) (g : cg y z) : cg x z := by obtain ⟨k, h⟩ := h; obtain ⟨l, g⟩ := g; exact ⟨k + l, by omega⟩
theorem cg.add {x y z w : Int} (h : cg x y) (g : cg z w) : cg (x + z) (y + w) := by obtain ⟨k, h⟩ := h; obtain ⟨l, g⟩ := g; exact ⟨k + l, by omega⟩
theorem cg.sub {x y z w : Int} (h : cg x y) (g : cg z w) : cg (x - z) (y - w) := by obtain ⟨k, h⟩ := h; obtain ⟨l, g⟩ := g; exact ⟨k - l, by omega⟩
theorem cg.mul {x y z w : Int} (h : cg x y) (g : cg z w) : cg (x * z) (y * w) := by
  obtain ⟨k, h⟩ := h; obtain ⟨l, g⟩ := g
  exact ⟨y * l + k * w + 3329 * (k * l), by subst h; subst g; grind⟩
theorem cg.mod (x : Int) : cg (x % 3329) x := ⟨-(x / 3329), by omega⟩
theorem cg.plus (x : Int) : cg (x + 3329) x := ⟨1, by omega⟩
theorem cg.eq {x y : Int} (h : cg x y) (hx : 0 ≤ x ∧ x < 3329) (hy : 0 ≤ y ∧ y < 3329) : x = y := by obtain ⟨k, h⟩ := h; omega
theorem cg.emod {x y : Int} (h : cg x y) : x % 3329 = y % 3329 := by obtain ⟨k, h⟩ := h; omega

theorem split_at {s m : Nat} (hm : s * m = 128) (hs : 0 < s) {j : Nat} (hj : j < 256) : ∃ b r, b < m ∧ r < s ∧ (j = 2 * s * b + r ∨ j = 2 * s * b + r + s) := by
  have h1 := Nat.div_add_mod j (2 * s)
  have h2 := Nat.mod_lt j (show 2 * s > 0 by omega)
  have hall : 2 * s * m = 256 := by rw [Nat.mul_assoc, hm]
  have hb : j / (2 * s) < m := by rw [Nat.div_lt_iff_lt_mul (by omega), Nat.mul_comm, hall]; exact hj
  by_cases hr : j % (2 * s) < s
  · exact ⟨_, _, hb, hr, .inl h1.symm⟩
  · exact ⟨j / (2 * s), j % (2 * s) - s, hb, by omega, .inr (by omega)⟩

theorem block_le {s m b r : Nat} (hm : s * m = 128) (hb : b < m) (hr : r < s) : 2 * s * b + r + s < 256 := by
  have h1 : s * (b + 1) ≤ s * m := Nat.mul_le_mul_left _ (by omega)
  rw [hm, Nat.mul_add] at h1
  rw [Nat.mul_assoc]
  omega

/-- c x + d y = z, number by number. -/
def lin (c d : Int) (x y z : List Int) : Prop := ∀ i, i < 256 → cg (z.getD i 0) (c * x.getD i 0 + d * y.getD i 0)

theorem nl_lo {s m b r : Nat} (hm : s * m = 128) (hs : 0 < s) (hb : b < m) (hr : r < s) (a : List Int) :
    cg ((nLayer s a).getD (2 * s * b + r) 0) (a.getD (2 * s * b + r) 0 + zeta (m + b) * a.getD (2 * s * b + r + s) 0) := by
  have hl := block_le hm hb hr
  rw [nLayer_eq, poly_getD (by omega), nval_lo hm hs hr]
  exact (cg.mod _).trans ((cg.refl _).add (cg.mod _))
theorem nl_hi {s m b r : Nat} (hm : s * m = 128) (hs : 0 < s) (hb : b < m) (hr : r < s) (a : List Int) :
    cg ((nLayer s a).getD (2 * s * b + r + s) 0) (a.getD (2 * s * b + r) 0 - zeta (m + b) * a.getD (2 * s * b + r + s) 0) := by
  have hl := block_le hm hb hr
  rw [nLayer_eq, poly_getD (by omega), nval_hi hm hs hr]
  exact (cg.mod _).trans ((cg.plus _).sub (cg.mod _))
theorem il_lo {s m b r : Nat} (hm : s * m = 128) (hs : 0 < s) (hb : b < m) (hr : r < s) (a : List Int) :
    cg ((iLayer s a).getD (2 * s * b + r) 0) (a.getD (2 * s * b + r) 0 + a.getD (2 * s * b + r + s) 0) := by
  have hl := block_le hm hb hr
  rw [iLayer, poly_getD (by omega), ival_lo hs hr]
  exact cg.mod _
theorem il_hi {s m b r : Nat} (hm : s * m = 128) (hs : 0 < s) (hb : b < m) (hr : r < s) (a : List Int) :
    cg ((iLayer s a).getD (2 * s * b + r + s) 0) (zeta (2 * m - 1 - b) * (a.getD (2 * s * b + r + s) 0 - a.getD (2 * s * b + r) 0)) := by
  have hl := block_le hm hb hr
  rw [iLayer, poly_getD (by omega), ival_hi hm hs hr]
  exact (cg.mod _).trans ((cg.refl _).mul ((cg.mod _).trans (by
    have := (cg.plus (a.getD (2 * s * b + r + s) 0)).sub (cg.refl (a.getD (2 * s * b + r) 0))
    exact this)))

theorem nl_lin {s m : Nat} (hm : s * m = 128) (hs : 0 < s) {c d : Int} {x y z : List Int} (h : lin c d x y z) : lin c d (nLayer s x) (nLayer s y) (nLayer s z) := by
  intro i hi
  obtain ⟨b, r, hb, hr, hj | hj⟩ := split_at hm hs hi
  · subst hj
    have hl := block_le hm hb hr
    have h1 := h (2 * s * b + r) (by omega)
    have h2 := h (2 * s * b + r + s) (by omega)
    refine (nl_lo hm hs hb hr z).trans ((h1.add ((cg.refl _).mul h2)).trans (cg.symm ?_))
    refine (((cg.refl c).mul (nl_lo hm hs hb hr x)).add ((cg.refl d).mul (nl_lo hm hs hb hr y))).trans (cg.of_eq ?_)
    grind
  · subst hj
    have hl := block_le hm hb hr
    have h1 := h (2 * s * b + r) (by omega)
    have h2 := h (2 * s * b + r + s) (by omega)
    refine (nl_hi hm hs hb hr z).trans ((h1.sub ((cg.refl _).mul h2)).trans (cg.symm ?_))
    refine (((cg.refl c).mul (nl_hi hm hs hb hr x)).add ((cg.refl d).mul (nl_hi hm hs hb hr y))).trans (cg.of_eq ?_)
    grind
theorem il_lin {s m : Nat} (hm : s * m = 128) (hs : 0 < s) {c d : Int} {x y z : List Int} (h : lin c d x y z) : lin c d (iLayer s x) (iLayer s y) (iLayer s z) := by
  intro i hi
  obtain ⟨b, r, hb, hr, hj | hj⟩ := split_at hm hs hi
  · subst hj
    have hl := block_le hm hb hr
    have h1 := h (2 * s * b + r) (by omega)
    have h2 := h (2 * s * b + r + s) (by omega)
    refine (il_lo hm hs hb hr z).trans ((h1.add h2).trans (cg.symm ?_))
    refine (((cg.refl c).mul (il_lo hm hs hb hr x)).add ((cg.refl d).mul (il_lo hm hs hb hr y))).trans (cg.of_eq ?_)
    grind
  · subst hj
    have hl := block_le hm hb hr
    have h1 := h (2 * s * b + r) (by omega)
    have h2 := h (2 * s * b + r + s) (by omega)
    refine (il_hi hm hs hb hr z).trans (((cg.refl _).mul (h2.sub h1)).trans (cg.symm ?_))
    refine (((cg.refl c).mul (il_hi hm hs hb hr x)).add ((cg.refl d).mul (il_hi hm hs hb hr y))).trans (cg.of_eq ?_)
    grind

theorem zeta_pairs : (List.range 7).all (fun t => (List.range (2 ^ t)).all fun b => zeta (2 * 2 ^ t - 1 - b) * zeta (2 ^ t + b) % 3329 == 3328) = true := by decide +kernel
theorem zeta_pair {t b : Nat} (ht : t < 7) (hb : b < 2 ^ t) : cg (zeta (2 * 2 ^ t - 1 - b) * zeta (2 ^ t + b)) (-1) := by
  have h1 := List.all_eq_true.1 zeta_pairs t (List.mem_range.2 ht)
  have h2 := List.all_eq_true.1 h1 b (List.mem_range.2 hb)
  have h3 := eq_of_beq h2
  exact ⟨(zeta (2 * 2 ^ t - 1 - b) * zeta (2 ^ t + b)) / 3329 + 1, by omega⟩

theorem il_nl {s t : Nat} (ht : t < 7) (hm : s * 2 ^ t = 128) (hs : 0 < s) (x : List Int) : lin 2 0 x x (iLayer s (nLayer s x)) := by
  intro i hi
  obtain ⟨b, r, hb, hr, hj | hj⟩ := split_at hm hs hi
  · subst hj
    refine (il_lo hm hs hb hr _).trans (((nl_lo hm hs hb hr x).add (nl_hi hm hs hb hr x)).trans (cg.of_eq ?_))
    grind
  · subst hj
    refine (il_hi hm hs hb hr _).trans (((cg.refl _).mul ((nl_hi hm hs hb hr x).sub (nl_lo hm hs hb hr x))).trans ?_)
    have hz := (zeta_pair ht hb).mul (cg.refl (-2 * x.getD (2 * s * b + r + s) 0))
    refine (cg.of_eq ?_).trans (hz.trans (cg.of_eq ?_)) <;> grind
theorem nl_il {s t : Nat} (ht : t < 7) (hm : s * 2 ^ t = 128) (hs : 0 < s) (x : List Int) : lin 2 0 x x (nLayer s (iLayer s x)) := by
  intro i hi
  obtain ⟨b, r, hb, hr, hj | hj⟩ := split_at hm hs hi
  · subst hj
    refine (nl_lo hm hs hb hr _).trans (((il_lo hm hs hb hr x).add ((cg.refl _).mul (il_hi hm hs hb hr x))).trans ?_)
    have hz := (zeta_pair ht hb).mul (cg.refl (x.getD (2 * s * b + r + s) 0 - x.getD (2 * s * b + r) 0))
    refine (cg.of_eq ?_).trans (((cg.refl (x.getD (2 * s * b + r) 0 + x.getD (2 * s * b + r + s) 0)).add hz).trans (cg.of_eq ?_)) <;> grind
  · subst hj
    refine (nl_hi hm hs hb hr _).trans (((il_lo hm hs hb hr x).sub ((cg.refl _).mul (il_hi hm hs hb hr x))).trans ?_)
    have hz := (zeta_pair ht hb).mul (cg.refl (x.getD (2 * s * b + r + s) 0 - x.getD (2 * s * b + r) 0))
    refine (cg.of_eq ?_).trans (((cg.refl (x.getD (2 * s * b + r) 0 + x.getD (2 * s * b + r + s) 0)).sub hz).trans (cg.of_eq ?_)) <;> grind
end Go.Ax.TryP
