/- A part of the proof: DgR1, DgR2, DgR3, DgR4, DgR5, DgR6, DgW3. -/
import Derived.Test.YtbcjbgjidddnaaaDsaG
set_option linter.unusedVariables false
namespace Go.Ax.TryP
open Go.Proofs
theorem c4c {x y : List Int} (h : o8 x = o8 y) : ∀ k, K4 x k = K4 y k
 | 0 => h
 | k + 1 => by rw [K4, K4, c4c h k]
theorem d5e {x y : List Int} (h : ∀ i, i < 256 → dcg (x.getD i 0) (y.getD i 0)) : j9 x = j9 y := by
 rw [a3g, a3g]
 refine c4c (A6 fun i hi => ?_) 8
 exact (h i hi).emod
theorem d3h {c d : Int} {x y z : List Int} (h : dlin c d x y z) : dlin c d (j9 x) (j9 y) (j9 z) := by
 have h0 : dlin c d (o8 x) (o8 y) (o8 z) := fun i hi => (c1c hi z).trans ((h i hi).trans (((dcg.refl c).mul (c1c hi x).symm).add ((dcg.refl d).mul (c1c hi y).symm)))
 have := b4t h0 8 (Nat.le_refl _)
 rwa [← a3g, ← a3g, ← a3g] at this
theorem d7q {a b : List Int} (ha : dred a) (hb : dred b) (h : j9 a = j9 b) : a = b := by
 have e := congrArg a5x h
 rwa [b7C, b7C, a0B ha, a0B hb] at e
theorem d2j (z : Int) : dcg (a44 z) z := by
 unfold a44
 split
 ·exact ⟨-(z / 8380417) - 1, by omega⟩
 ·exact ⟨-(z / 8380417), by omega⟩
theorem d8w {a : List Int} {i : Nat} (hi : i < 256) : dcg ((a1i a).getD i 0) (a.getD i 0) := by rw [a6d hi]; exact d2j _
theorem c4T (a : List Int) : j9 (a1i a) = j9 a := d5e fun i hi => d8w hi
theorem c4S (a : List Int) (h : a.length = 256) : a0i (a1i a) = a0i a := by
 have e : ∀ i, i < 256 → a44 ((a1i a).getD i 0) = a44 (a.getD i 0) := fun i hi => by
  rw [a6d hi]
  have := c6q (a.getD i 0)
  generalize a44 (a.getD i 0) = c at this ⊢
  unfold a44
  split <;> omega
 have key : ∀ n, n ≤ 256 → b4B (a1i a) n = b4B a n := by
  intro n
  induction n with
  | zero => intro _; rw [b7T, b7T]
  | succ n ih => intro hn; rw [a8W, a8W, ih (by omega), e n (by omega)]
 exact key 256 (Nat.le_refl _)
theorem d0b {w : Nat} {l : List Int} (hw : 0 < w) (hin : inW w l) {i : Nat} (hi : i < 256) : (b7u w fun k => b3g (pkW w l) (i * w + k)) = l.getD i 0 := by
 have hle : ∀ k, k < w → i * w + k < 8 * (32 * w) := fun k hk => by
  have := Nat.mul_le_mul_right w (show i + 1 ≤ 256 by omega)
  rw [Nat.add_mul, Nat.one_mul] at this
  omega
 rw [a29 (d := c2W (l.getD i 0)) fun k hk => by
  unfold pkW
  rw [c57 (fun t _ => d7G w l t) (hle k hk), d6g l hk]]
 have h := hin i hi
 rw [d3X h.1]
 exact Int.emod_eq_of_lt h.1 h.2
theorem c5B {top : Int} {w : Nat} {a : List Int} (hw : 0 < w) (hin : inW w (a3a top a)) : a0t top w (pkW w (a3a top a)) = a1i a := by
 unfold a0t
 have e : a1i a = o5 fun i => (a1i a).getD i 0 := (a1f (c6r a).1).symm
 rw [e]
 refine A6 fun i hi => ?_
 rw [d0b hw hin hi]
 have : (a3a top a).getD i 0 = top - (a1i a).getD i 0 := d6 hi
 rw [this]
 omega
theorem d5K {w : Nat} {l : List Int} (hw : 0 < w) (hl : l.length = 256) (hin : inW w l) : c7H w (pkW w l) = l := by
 unfold c7H
 refine Eq.trans ?_ (a1f hl)
 exact A6 fun i hi => d0b hw hin hi
theorem d3Y {m y S z c : List Int} {r : Nat} (hz : ∀ s, s < 5 → ∀ i, i < 256 → dcg ((j9 (chD z s)).getD i 0) ((j9 (chD y s)).getD i 0 + (j9 c).getD i 0 * (j9 (chD S s)).getD i 0)) :
  ∀ s, s ≤ 5 → ∀ i, i < 256 → dcg ((a4R m z r s).getD i 0) ((a4R m y r s).getD i 0 + (j9 c).getD i 0 * (a4R m S r s).getD i 0)
 | 0, _, i, hi => by
  have e : ∀ x : List Int, (a4R m x r 0).getD i 0 = 0 := fun x => by
   show (List.replicate 256 (0 : Int)).getD i 0 = 0
   rw [List.getD_eq_getElem?_getD, List.getElem?_replicate, if_pos hi]; rfl
  rw [e, e, e]
  exact dcg.of_eq (by grind)
 | s + 1, hs, i, hi => by
  have ih := d3Y (m := m) (r := r) hz s (by omega) i hi
  have h1 := hz s (by omega) i hi
  have st : ∀ x : List Int, dcg ((a4R m x r (s + 1)).getD i 0) ((a4R m x r s).getD i 0 + (chD m (r * 5 + s)).getD i 0 * (j9 (chD x s)).getD i 0) := fun x =>
   (c4w hi _ _).trans ((dcg.refl _).add (b7E hi _ _))
  refine (st z).trans ((ih.add ((dcg.refl _).mul h1)).trans (dcg.symm (((st y).add ((dcg.refl _).mul (st S))).trans (dcg.of_eq ?_))))
  grind
theorem d0u {m y y' : List Int} {r : Nat} (h : ∀ s, s < 5 → j9 (chD y s) = j9 (chD y' s)) : ∀ s, s ≤ 5 → a4R m y r s = a4R m y' r s
 | 0, _ => rfl
 | s + 1, hs => by
  show a1F (a4R m y r s) _ = a1F (a4R m y' r s) _
  rw [d0u h s (by omega), h s (by omega)]
theorem c9R (m y : List Int) (r : Nat) : ∀ s, dred (a4R m y r s)
 | 0 => by
  refine ⟨List.length_replicate .., fun i => ?_⟩
  show 0 ≤ (List.replicate 256 (0 : Int)).getD i 0 ∧ (List.replicate 256 (0 : Int)).getD i 0 < 8380417
  rw [List.getD_eq_getElem?_getD, List.getElem?_replicate]
  split <;> simp
 | s + 1 => b5O _ _
theorem d7r (a b : List Int) {i : Nat} (hi : i < 256) : dcg ((j9 (a46 a b)).getD i 0) ((j9 a).getD i 0 - (j9 b).getD i 0) := by
 have h : dlin 1 (-1) a b (a46 a b) := fun i hi => (d2B hi a b).trans (dcg.of_eq (by grind))
 exact (d3h h i hi).trans (dcg.of_eq (by grind))
theorem d5M {m y S z c e t0 tv : List Int} {r : Nat}
  (hz : ∀ s, s < 5 → ∀ i, i < 256 → dcg ((j9 (chD z s)).getD i 0) ((j9 (chD y s)).getD i 0 + (j9 c).getD i 0 * (j9 (chD S s)).getD i 0))
  (ht : ∀ i, i < 256 → dcg ((j9 tv).getD i 0 + (j9 t0).getD i 0) ((a4R m S r 5).getD i 0 + (j9 e).getD i 0)) :
  a5x (a46 (a4R m z r 5) (a45 (j9 c) (j9 tv))) = a1F (a46 (a5x (a4R m y r 5)) (a3S c e)) (a3S c t0) := by
 refine d7q (b1B _) (b5O _ _) ?_
 rw [b2W, a0B (c6l _ _), c08, c1l]
 refine c9M (c6l _ _) (b5O _ _) fun i hi => ?_
 have h1 : dcg ((j9 (a46 (a5x (a4R m y r 5)) (a3S c e))).getD i 0) ((a4R m y r 5).getD i 0 - (j9 c).getD i 0 * (j9 e).getD i 0) := by
  refine (d7r _ _ hi).trans ?_
  rw [b2W, a0B (c9R m y r 5), c1l]
  exact (dcg.refl _).sub (b7E hi _ _)
 refine (d2B hi _ _).trans (((dcg.refl _).sub (b7E hi _ _)).trans (dcg.symm ((c4w hi _ _).trans ((h1.add (b7E hi _ _)).trans ?_))))
 obtain ⟨k1, g1⟩ := d3Y (m := m) (r := r) hz 5 (Nat.le_refl _) i hi
 obtain ⟨k2, g2⟩ := ht i hi
 generalize (a4R m z r 5).getD i 0 = Z at g1 ⊢
 generalize (a4R m y r 5).getD i 0 = Y at g1 ⊢
 generalize (a4R m S r 5).getD i 0 = X at g1 g2
 generalize (j9 c).getD i 0 = C at g1 ⊢
 generalize (j9 tv).getD i 0 = T at g2 ⊢
 generalize (j9 t0).getD i 0 = O at g2 ⊢
 generalize (j9 e).getD i 0 = E at g2 ⊢
 refine ⟨C * k2 - k1, ?_⟩
 subst g1
 have g3 : X = T + O - E - 8380417 * k2 := by omega
 subst g3
 grind
end Go.Ax.TryP
set_option linter.unusedVariables false
namespace Go.Ax.TryP
open Go.Proofs
theorem c9S (F : Int → Int) {l : List Int} {i : Nat} {v : Int} (hi : i < l.length) : ∀ n, i < n → Z9 n (fun u => F ((l.set i v).getD u 0)) + F (l.getD i 0) = Z9 n (fun u => F (l.getD u 0)) + F v
 | 0, h => absurd h (Nat.not_lt_zero i)
 | n + 1, h => by
  have far : ∀ u, u ≠ i → (l.set i v).getD u 0 = l.getD u 0 := fun u hu => by
   rw [List.getD_eq_getElem?_getD, List.getElem?_set_ne (fun e => hu e.symm), ← List.getD_eq_getElem?_getD]
  have self : (l.set i v).getD i 0 = v := by rw [List.getD_eq_getElem?_getD, List.getElem?_set_self hi]; rfl
  rw [Z9, Z9]
  by_cases e : i = n
  ·subst e
   have hs : Z9 i (fun u => F ((l.set i v).getD u 0)) = Z9 i (fun u => F (l.getD u 0)) := a0a fun u hu => by rw [far u (by omega)]
   rw [hs, self]
   omega
  ·have ih := c9S F (v := v) hi n (by omega)
   rw [far n (fun h => e h.symm)]
   omega
def wt (c : List Int) : Int := Z9 256 fun u => b1Q (a44 (c.getD u 0))
theorem c5O (z : Int) : 0 ≤ b1Q z := by unfold b1Q; split <;> omega
theorem d6n {c : List Int} (hc : c.length = 256) {i : Nat} (hi : i < 256) (v : Int) : wt (c.set i v) + b1Q (a44 (c.getD i 0)) = wt c + b1Q (a44 v) := c9S (fun z => b1Q (a44 z)) (by omega) 256 hi
theorem d4B {s : List Int} {n i a : Nat} {c : List Int} (hc : c.length = 256) (hi : i < 256) : wt (c2V s n i a c) ≤ wt c + 1 := by
 unfold c2V
 have hj : (shb s a).toNat < 256 := by have := d1z s a; omega
 generalize (shb s a).toNat = j at hj ⊢
 have hv : ∀ b : Prop, [Decidable b] → b1Q (a44 (if b then (8380416 : Int) else 1)) = 1 := fun b _ => by split <;> decide
 have h1 := d6n hc hi (c.getD j 0)
 have h2 := d6n (c := c.set i (c.getD j 0)) (by rw [List.length_set, hc]) hj (if c2W (shb s (n / 8)) (n % 8) = 1 then 8380416 else 1)
 rw [hv] at h2
 have h3 : (c.set i (c.getD j 0)).getD j 0 = c.getD j 0 := by
  by_cases e : i = j
  ·subst e
   rw [List.getD_eq_getElem?_getD, List.getElem?_set_self (by omega)]; rfl
  ·rw [List.getD_eq_getElem?_getD, List.getElem?_set_ne e, ← List.getD_eq_getElem?_getD]
 rw [h3] at h2
 have := c5O (a44 (c.getD i 0))
 omega
theorem c9j : wt z256 = 0 := by
 unfold wt
 rw [a0a (g := fun _ => 0) fun i hi => by
  rw [z256, List.getD_eq_getElem?_getD, List.getElem?_replicate, if_pos hi]
  decide]
 exact b5T 256
theorem c9v {tau : Nat} (ht : tau ≤ 256) (s : List Int) : ∀ {k : Nat} {c : List Int} {p : Nat}, k ≤ tau → b3f tau s k = some (c, p) → wt c ≤ k
 | 0, c, p, _, h => by
  simp only [b3f] at h
  cases h
  exact Int.le_of_eq c9j
 | k + 1, c, p, hk, h => by
  simp only [b3f] at h
  split at h
  ·cases h
  ·rename_i c0 p0 hb
   split at h
   ·cases h
   ·cases h
    have ih := c9v ht s (by omega) hb
    have := d4B (s := s) (n := k) (i := 256 - tau + k) (a := a5M s (256 - tau + k) 1032 p0) (c4p tau s hb).1 (by omega)
    omega
theorem d4C (s : List Int) : wt (a4b 49 s).1 ≤ 49 := by
 unfold a4b
 split
 ·rw [c9j]; decide
 ·split
  ·rw [c9j]; decide
  ·rename_i c p hk
   exact c9v (by decide) s (by decide) hk
theorem d64 {n : Nat} {f g : Nat → Int} (h : ∀ i, i < n → b1Q (f i) ≤ g i) : b1Q (Z9 n f) ≤ Z9 n g := by
 induction n with
 | zero => exact Int.le_refl 0
 | succ n ih =>
  have h1 := ih fun i hi => h i (by omega)
  have h2 := h n (by omega)
  rw [Z9, Z9]
  unfold b1Q at *
  split at h1 <;> split at h2 <;> split <;> omega
def ccv (a b : List Int) (n : Nat) (u : Nat) : Int := if u ≤ n ∧ n < u + 256 then a44 (a.getD u 0) * a44 (b.getD (n - u) 0) else 0
theorem d55 (a b : List Int) (n : Nat) (hn : n < 512) : dcg (dcv a b 256 n) (Z9 256 (ccv a b n)) := by
 unfold dcv
 refine c78 fun u hu => ?_
 unfold ccv
 split
 ·exact ((c1c hu a).trans (d2j _).symm).mul ((c1c (by omega) b).trans (d2j _).symm)
 ·exact dcg.refl _
theorem d6f {x y m : Int} (hy : b1Q y ≤ m) : b1Q (x * y) ≤ m * b1Q x := by
 have h := c3T hy
 have hx := c5O x
 have e : b1Q x = x ∧ 0 ≤ x ∨ b1Q x = -x ∧ x ≤ 0 := by unfold b1Q; split <;> omega
 have key : -(m * b1Q x) ≤ x * y ∧ x * y ≤ m * b1Q x := by
  rcases e with ⟨e, h0⟩ | ⟨e, h0⟩
  ·rw [e]
   have a1 := Int.mul_le_mul_of_nonneg_left h.2 h0
   have a2 := Int.mul_le_mul_of_nonneg_left h.1 h0
   refine ⟨?_, ?_⟩ <;> grind
  ·rw [e]
   have a1 := Int.mul_le_mul_of_nonneg_left h.2 (show 0 ≤ -x by omega)
   have a2 := Int.mul_le_mul_of_nonneg_left h.1 (show 0 ≤ -x by omega)
   refine ⟨?_, ?_⟩ <;> grind
 unfold b1Q at *
 generalize x * y = p at *
 split <;> omega
theorem d3e {c e : List Int} (hw : wt c ≤ 49) (he : ∀ i, i < 256 → b1Q (a44 (e.getD i 0)) ≤ 4) {i : Nat} (hi : i < 256) : ∃ x : Int, (-196 ≤ x ∧ x ≤ 196) ∧ (a3S c e).getD i 0 = x % 8380417 := by
 refine ⟨Z9 256 (ccv c e i) - Z9 256 (ccv c e (i + 256)), ?_, ?_⟩
 ·have e1 : Z9 256 (ccv c e i) - Z9 256 (ccv c e (i + 256)) = Z9 256 (fun u => ccv c e i u + -1 * ccv c e (i + 256) u) := by
   rw [c0A, b5S]
   omega
  have hb : b1Q (Z9 256 (fun u => ccv c e i u + -1 * ccv c e (i + 256) u)) ≤ Z9 256 fun u => 4 * b1Q (a44 (c.getD u 0)) := d64 fun u hu => by
   unfold ccv
   by_cases h : u ≤ i
   ·rw [if_pos (by omega), if_neg (by omega), Int.mul_zero, Int.add_zero]
    exact d6f (he _ (by omega))
   ·rw [if_neg (by omega), if_pos (by omega), Int.zero_add]
    have := d6f (x := a44 (c.getD u 0)) (he (i + 256 - u) (by omega))
    generalize a44 (c.getD u 0) * a44 (e.getD (i + 256 - u) 0) = p at this ⊢
    unfold b1Q at *
    split at this <;> split <;> omega
  rw [b5S] at hb
  rw [e1]
  refine c3T (Int.le_trans hb ?_)
  have : Z9 256 (fun u => b1Q (a44 (c.getD u 0))) ≤ 49 := hw
  omega
 ·rw [← c6s, b82, d6 hi]
  exact ((d55 c e i (by omega)).sub (d55 c e (i + 256) (by omega))).emod
theorem d2P {w x : Int} (hw : 0 ≤ w ∧ w < 8380417) (hx : -196 ≤ x ∧ x ≤ 196) (hl : -261692 < fDl ((w - x) % 8380417) ∧ fDl ((w - x) % 8380417) < 261692) : fDh ((w - x) % 8380417) = fDh w := by
 have hR : 0 ≤ (w - x) % 8380417 ∧ (w - x) % 8380417 < 8380417 := by omega
 have hy : (w - x) % 8380417 = w - x ∨ (w - x) % 8380417 = w - x + 8380417 ∨ (w - x) % 8380417 = w - x - 8380417 := by omega
 generalize (w - x) % 8380417 = R at *
 have e1 : R % 8380417 = R := Int.emod_eq_of_lt hR.1 hR.2
 have e2 : w % 8380417 = w := Int.emod_eq_of_lt hw.1 hw.2
 unfold fDh fDl d4e a9I at *
 rw [e1] at *
 rw [e2]
 split at hl <;> split at hl <;> split <;> split <;> (try split) <;> (try split) <;> omega
end Go.Ax.TryP
set_option linter.unusedVariables false
namespace Go.Ax.TryP
open Go.Proofs
theorem a7l {a b : List Int} {x n : Nat} (h : x + n ≤ a.length) : J5 (a ++ b) x n = J5 a x n := by
 unfold J5
 rw [List.drop_append_of_le_length (by omega), List.take_append_of_le_length (by rw [List.length_drop]; omega)]
theorem a8A {a b : List Int} {y x n : Nat} (h : y = a.length + x) : J5 (a ++ b) y n = J5 b x n := by
 unfold J5
 rw [h, ← List.drop_drop, List.drop_left' rfl]
theorem c05 {a : List Int} {n : Nat} (h : a.length = n) : J5 a 0 n = a := by
 unfold J5
 rw [List.drop_zero, List.take_of_length_le (by omega)]
theorem c2A {f : Nat → List Int} {w : Nat} : ∀ {n i : Nat}, (∀ j, j < n → (f j).length = w) → i < n → J5 (J4 f n) (i * w) w = f i
 | 0, i, _, hi => absurd hi (Nat.not_lt_zero i)
 | n + 1, i, h, hi => by
  have hl := X0 (f := f) (w := w) (n := n) fun j hj => h j (by omega)
  rw [J4]
  by_cases e : i = n
  ·rw [a8A (x := 0) (by rw [hl, e, Nat.add_zero]), e, c05 (h n (by omega))]
  ·have : (i + 1) * w ≤ n * w := Nat.mul_le_mul_right w (by omega)
   rw [Nat.add_mul, Nat.one_mul] at this
   rw [a7l (by rw [hl]; omega)]
   exact c2A (fun j hj => h j (by omega)) (by omega)
theorem d9c {l : List Int} {k t : Nat} (hk : k < 6) (ht : t < (c5K l k).length) : (X6 l 6).getD ((X6 l k).length + t) 0 = (c5K l k).getD t 0 := by
 obtain ⟨r, hr⟩ := c4l (c5K l) (k + 1) (5 - k)
 have e : X6 l 6 = X6 l k ++ (c5K l k ++ r) := by
  rw [← List.append_assoc]
  have h6 : k + 1 + (5 - k) = 6 := by omega
  rw [h6] at hr
  exact hr
 rw [e, List.getD_eq_getElem?_getD, List.getElem?_append_right (by omega), Nat.add_sub_cancel_left, List.getElem?_append_left ht, ← List.getD_eq_getElem?_getD]
theorem d29 (l : List Int) (k i : Nat) : ∀ t, (i : Int) ∈ b2S (mkP l k) t ↔ i < t ∧ l.getD (k * 256 + i) 0 ≠ 0
 | 0 => by simp [b2S]
 | t + 1 => by
  rw [b2S, List.mem_append, d29 l k i t]
  unfold mkP
  by_cases h : l.getD (k * 256 + t) 0 ≠ 0
  ·rw [if_pos h, List.mem_singleton]
   constructor
   ·rintro (⟨h1, h2⟩ | h1)
    ·exact ⟨by omega, h2⟩
    ·have : i = t := by omega
     subst this
     exact ⟨by omega, h⟩
   ·rintro ⟨h1, h2⟩
    by_cases e : i = t
    ·exact .inr (by omega)
    ·exact .inl ⟨by omega, h2⟩
  ·rw [if_neg h]
   constructor
   ·rintro (⟨h1, h2⟩ | h1)
    ·exact ⟨by omega, h2⟩
    ·simp at h1
   ·rintro ⟨h1, h2⟩
    have : i ≠ t := fun e => by subst e; exact h h2
    exact .inl ⟨by omega, h2⟩
theorem c9g {l : List Int} (hl : l.length = 6 * 256) (h01 : ∀ z ∈ l, z = 0 ∨ z = 1) (hM : (X6 l 6).length ≤ 55) : a8w 6 55 (b8H l 55).1 = (l, 0) := by
 have h6 : l.length / 256 = 6 := by rw [hl]
 have hp : (b8H l 55).1 = X6 l 6 ++ List.replicate (55 - (X6 l 6).length) 0 ++ (List.range 6).map (c7J l) := by
  unfold b8H
  rw [h6, if_neg (by omega), if_neg (by omega)]
  rfl
 rw [hp]
 have hAZ : (X6 l 6 ++ List.replicate (55 - (X6 l 6).length) (0 : Int)).length = 55 := by rw [List.length_append, List.length_replicate]; omega
 have hbl : (X6 l 6 ++ List.replicate (55 - (X6 l 6).length) 0 ++ (List.range 6).map (c7J l)).length = 61 := by rw [List.length_append, hAZ, List.length_map, List.length_range]
 have hbb : ∀ z ∈ X6 l 6 ++ List.replicate (55 - (X6 l 6).length) 0 ++ (List.range 6).map (c7J l), 0 ≤ z ∧ z ≤ 255 := fun z hz => by
  rcases List.mem_append.1 hz with hz | hz
  ·rcases List.mem_append.1 hz with hz | hz
   ·exact d1V l 6 z hz
   ·rw [List.eq_of_mem_replicate hz]; omega
  ·obtain ⟨k, hk, rfl⟩ := List.mem_map.1 hz
   have hk := List.mem_range.1 hk
   have hle : (X6 l (k + 1)).length ≤ (X6 l 6).length := c0K _ (by omega)
   unfold c7J
   omega
 have bA : ∀ j, j < (X6 l 6).length → (X6 l 6 ++ List.replicate (55 - (X6 l 6).length) 0 ++ (List.range 6).map (c7J l)).getD j 0 = (X6 l 6).getD j 0 := fun j hj => by
  rw [List.append_assoc, List.getD_eq_getElem?_getD, List.getElem?_append_left hj, ← List.getD_eq_getElem?_getD]
 have bZ : ∀ j, (X6 l 6).length ≤ j → j < 55 → (X6 l 6 ++ List.replicate (55 - (X6 l 6).length) 0 ++ (List.range 6).map (c7J l)).getD j 0 = 0 := fun j h1 h2 => by
  rw [List.append_assoc, List.getD_eq_getElem?_getD, List.getElem?_append_right h1, List.getElem?_append_left (by rw [List.length_replicate]; omega), List.getElem?_replicate, if_pos (by omega)]
  rfl
 have bE : ∀ k, k < 6 → (X6 l 6 ++ List.replicate (55 - (X6 l 6).length) 0 ++ (List.range 6).map (c7J l)).getD (55 + k) 0 = ((X6 l (k + 1)).length : Int) := fun k hk => by
  rw [List.getD_eq_getElem?_getD, List.getElem?_append_right (by rw [hAZ]; omega), hAZ, Nat.add_sub_cancel_left, List.getElem?_map, List.getElem?_range hk]
  rfl
 generalize X6 l 6 ++ List.replicate (55 - (X6 l 6).length) 0 ++ (List.range 6).map (c7J l) = b at hbl hbb bA bZ bE ⊢
 have hcut : ∀ k, k ≤ 6 → a7k b 55 k = (X6 l k).length := fun k hk => by
  cases k with
  | zero => rfl
  | succ k =>
   show (b.getD (55 + k) 0).toNat = _
   rw [bE k (by omega)]
   omega
 have hstep : ∀ k, (X6 l (k + 1)).length = (X6 l k).length + (c5K l k).length := fun k => by
  show (X6 l k ++ c5K l k).length = _
  rw [List.length_append]
 have hle : ∀ k, k ≤ 6 → (X6 l k).length ≤ (X6 l 6).length := fun k hk => c0K _ hk
 have hseg : ∀ k t, k < 6 → t < (c5K l k).length → b.getD ((X6 l k).length + t) 0 = (c5K l k).getD t 0 := fun k t hk ht => by
  have h1 := hstep k
  have h2 := hle (k + 1) (by omega)
  rw [bA _ (by omega), d9c hk ht]
 unfold a8w
 rw [if_neg (by rw [hbl]; decide), if_pos]
 ·refine congrArg (fun x => (x, (0 : Int))) ?_
  show a8R b 55 (List.replicate (6 * 256) 0) 6 = l
  have hlen : (a8R b 55 (List.replicate (6 * 256) 0) 6).length = 6 * 256 := by rw [b5X, List.length_replicate]
  have z0 : ∀ j, (List.replicate (6 * 256) (0 : Int)).getD j 0 = 0 := fun j => a4E (6 * 256) j
  refine rows.ext (n := 6 * 256) hlen hl fun j hj => ?_
  obtain ⟨k, i, hk, hi, rfl⟩ : ∃ k i, k < 6 ∧ i < 256 ∧ j = k * 256 + i := ⟨j / 256, j % 256, by omega, Nat.mod_lt _ (by decide), by omega⟩
  have hg := c6x hbb (m := 55) (n := 6) 6 (Nat.le_refl 6) k i hk hi
  have hv := c4K (b := b) (m := 55) (h := List.replicate (6 * 256) 0) (fun j => .inl (z0 j)) 6 (k * 256 + i)
  have hv2 : l.getD (k * 256 + i) 0 = 0 ∨ l.getD (k * 256 + i) 0 = 1 := h01 _ (a3m (by omega))
  have hm := d29 l k i 256
  have hiff : (k < 6 ∧ ∃ t, t < a7k b 55 (k + 1) - a7k b 55 k ∧ b.getD (a7k b 55 k + t) 0 = i) ↔ l.getD (k * 256 + i) 0 ≠ 0 := by
   rw [hcut (k + 1) (by omega), hcut k (by omega), hstep k, Nat.add_sub_cancel_left]
   constructor
   ·rintro ⟨-, t, ht, e⟩
    rw [hseg k t hk ht] at e
    have : (i : Int) ∈ c5K l k := by rw [← e]; exact a3m ht
    exact (hm.1 this).2
   ·intro h
    have hin : (i : Int) ∈ c5K l k := hm.2 ⟨hi, h⟩
    obtain ⟨t, ht, e⟩ := List.mem_iff_getElem.1 hin
    refine ⟨hk, t, ht, ?_⟩
    rw [hseg k t hk ht, List.getD_eq_getElem?_getD, List.getElem?_eq_getElem ht]
    exact e
  rw [hiff] at hg
  generalize (a8R b 55 (List.replicate (6 * 256) 0) 6).getD (k * 256 + i) 0 = x at hg hv ⊢
  generalize l.getD (k * 256 + i) 0 = y at hg hv2 ⊢
  rcases hv with rfl | rfl <;> rcases hv2 with rfl | rfl <;> simp at hg ⊢
 ·refine ⟨fun k hk => ?_, fun k hk i h1 h2 => ?_, fun j h1 h2 => ?_⟩
  ·have hk : k < 6 := hk
   show a7k b 55 k ≤ a7k b 55 (k + 1) ∧ a7k b 55 (k + 1) ≤ 55
   rw [hcut k (by omega), hcut (k + 1) (by omega)]
   have h1 := hstep k
   have h2 := hle (k + 1) (by omega)
   omega
  ·have hk : k < 6 := hk
   have h1 : a7k b 55 k < i := h1
   have h2 : i < a7k b 55 (k + 1) := h2
   rw [hcut k (by omega)] at h1
   rw [hcut (k + 1) (by omega), hstep k] at h2
   obtain ⟨t, rfl⟩ : ∃ t, i = (X6 l k).length + (t + 1) := ⟨i - (X6 l k).length - 1, by omega⟩
   rw [show (X6 l k).length + (t + 1) - 1 = (X6 l k).length + t by omega, hseg k t hk (by omega), hseg k (t + 1) hk (by omega)]
   exact d7g (d3D l k).1 (by omega) (by omega)
  ·have h1 : a7k b 55 6 ≤ j := h1
   rw [hcut 6 (by omega)] at h1
   exact bZ j h1 h2
end Go.Ax.TryP
set_option linter.unusedVariables false
namespace Go.Ax.TryP
open Go.Proofs
variable {xi : List Int}
theorem d9u : J5 (skD xi) 0 32 = a6h xi := by
 unfold skD skT skH
 rw [List.append_assoc, List.append_assoc, List.append_assoc, a7l (by rw [(a1b xi).1]; omega), c05 (a1b xi).1]
theorem e0s : J5 (skD xi) 64 64 = a3Q (pkD xi) 64 := by
 have h1 : (J5 (a9x xi) 96 32).length = 32 := R4 (by rw [b5H]; omega)
 unfold skD
 rw [a7l (by rw [c2L]; omega)]
 unfold skT
 rw [a7l (by rw [c81]; omega)]
 unfold skH
 rw [a8A (x := 0) (by rw [List.length_append, (a1b xi).1, h1]), c05 (a0g _ _)]
theorem e0q {i : Nat} (hi : i < 11) : skP (skD xi) i = a1i (a9y xi i).1 := by
 unfold skP skD
 rw [a7l (by rw [c2L]; omega)]
 unfold skT
 rw [a8A (x := i * 128) (by rw [c81]; omega), c2A (w := 128) (fun j _ => a2O 4 _) hi]
 exact c5B (by decide) (d2e _)
theorem e00 {r : Nat} (hr : r < 6) : skL (skD xi) r = a1i (c1o (tK xi r)).2 := by
 unfold skL skD
 rw [a8A (x := r * 416) (by rw [c2L]; omega)]
 unfold tlT
 rw [c2A (w := 416) (fun j _ => a2O 13 _) hr]
 exact c5B (by decide) (d83 _)
theorem e0r : d3o (skD xi) := by
 refine ⟨(d3L xi).1, fun i hi => ?_⟩
 have h := b4o (J5 (a9x xi) 32 64 ++ c7G (i : Int))
 rw [e0q hi, c4S _ (b0B xi i).1]
 exact c82 h.1 h.2
theorem d6i : J5 (pkD xi) 0 32 = a6h xi := by
 unfold pkD pkT
 rw [a7l (by rw [(a1b xi).1]; omega), c05 (a1b xi).1]
theorem e0X {r : Nat} (hr : r < 6) : tV (pkD xi) r = o5 fun i => fPh ((tK xi r).getD i 0) * 8192 := by
 have e : c7H 10 (J5 (pkD xi) (32 + 320 * r) 320) = o8 (c1o (tK xi r)).1 := by
  unfold pkD pkT
  rw [a8A (x := r * 320) (by rw [(a1b xi).1]; omega), c2A (w := 320) (fun j _ => a2O 10 _) hr]
  exact d5K (by decide) (c4F _).1 (d8U _)
 unfold tV
 refine A6 fun i hi => ?_
 rw [e, a8N hi, (d5k hi).1]
 have := d69 ((tK xi r).getD i 0)
 omega
theorem d7o (msg ctx : List Int) : muS (skD xi) msg ctx = muV (pkD xi) msg ctx := by
 unfold muS muV
 rw [e0s]
section
variable {ct c s e l y w : List Int}
theorem d9q (hct : ct.length = 48) : J5 (c80 ct c s e l y w) 0 48 = ct := by
 unfold c80 zT
 rw [List.append_assoc, a7l (by omega), c05 hct]
theorem e0J (hct : ct.length = 48) (ho : b7U c s e l y w) {i : Nat} (hi : i < 5) : zV (c80 ct c s e l y w) i = a1i (zD c s y i) := by
 unfold zV c80
 rw [a7l (by rw [d4c hct]; omega)]
 unfold zT
 rw [a8A (x := i * 640) (by rw [hct]; omega), c2A (w := 640) (fun j _ => a2O 20 _) hi]
 exact c5B (by decide) (c1y (m := 524091) (by omega) (by have := ho.1 i hi; omega) (by omega) (by decide))
theorem d9r (hct : ct.length = 48) (ho : b7U c s e l y w) : d7y (c80 ct c s e l y w) := fun i hi => by
 rw [e0J hct ho hi, c4S _ (d9L c s y i).1]
 exact ho.1 i hi
theorem e0I (hct : ct.length = 48) (ho : b7U c s e l y w) : hV (c80 ct c s e l y w) = (hrow c w e l, 0) := by
 unfold hV
 rw [d6X hct ho]
 refine c9g (c0B c w e l) (d2R c w e l) ?_
 have := d2n c w e l
 have h3 := ho.2.2
 show (X6 (J4 (fun r => (htD c w e l r).1) 6) 6).length ≤ 55
 omega
end
end Go.Ax.TryP
set_option linter.unusedVariables false
namespace Go.Ax.TryP
open Go.Proofs
theorem b8R {f g : Nat → List Int} : ∀ {n : Nat}, (∀ i, i < n → f i = g i) → J4 f n = J4 g n
 | 0, _ => rfl
 | n + 1, h => by rw [J4, J4, b8R fun i hi => h i (by omega), h n (by omega)]
theorem d9o {xi : List Int} {s : Nat} (hs : s < 5) : chD (sE (skD xi)) s = a1i (a9y xi s).1 := by
 unfold sE
 rw [a0A (fun j _ => c5m _ j) hs, e0q (by omega)]
theorem d58 {xi : List Int} {r : Nat} (hr : r < 6) : chD (eE (skD xi)) r = a1i (a9y xi (5 + r)).1 := by
 unfold eE
 rw [a0A (f := fun i => skP (skD xi) (5 + i)) (fun j _ => c5m _ _) hr, e0q (by omega)]
theorem d80 {xi : List Int} {r : Nat} (hr : r < 6) : chD (lE (skD xi)) r = a1i (c1o (tK xi r)).2 := by
 unfold lE
 rw [a0A (fun j _ => d3M _ j) hr, e00 hr]
theorem c7F (m y : List Int) {r : Nat} (hr : r < 6) : chD (R3 m y) r = a5x (a4R m y r 5) := a0A (f := fun r => a5x (a4R m y r 5)) (fun j _ => (c1k _).1) hr
theorem d8Y {xi : List Int} {r : Nat} (hr : r < 6) : ∀ i, i < 256 → dcg ((j9 (tV (pkD xi) r)).getD i 0 + (j9 (chD (lE (skD xi)) r)).getD i 0) ((a4R (a67 (a6h xi)) (sE (skD xi)) r 5).getD i 0 + (j9 (chD (eE (skD xi)) r)).getD i 0) := by
 intro i hi
 have h1 : dlin 1 1 (tV (pkD xi) r) (c1o (tK xi r)).2 (tK xi r) := fun j hj => by
  rw [e0X hr, d6 hj, (d5k hj).2]
  have := d8I ((tK xi r).getD j 0)
  generalize (tK xi r).getD j 0 = t at this ⊢
  exact ⟨t / 8380417, by omega⟩
 have h2 := d3h h1 i hi
 have h3 : j9 (tK xi r) = a1F (a4R (a67 (a6h xi)) (sE (skD xi)) r 5) (j9 (chD (eE (skD xi)) r)) := by
  unfold tK
  rw [c08, c7F _ _ hr, b2W, a0B (c9R _ _ _ _), d58 hr, c4T]
  have e1 : a4R (a67 (a6h xi)) (sK xi) r 5 = a4R (a67 (a6h xi)) (sE (skD xi)) r 5 := d0u (fun s hs => by
   rw [d9o hs, c4T]
   unfold sK
   rw [a0A (f := fun i => (a9y xi i).1) (fun j _ => (b0B xi j).1) hs]) 5 (Nat.le_refl 5)
  have e2 : chD (eK xi) r = (a9y xi (5 + r)).1 := a0A (f := fun i => (a9y xi (5 + i)).1) (fun j _ => (b0B xi _).1) hr
  rw [e1, e2]
 rw [d80 hr, c4T]
 rw [h3] at h2
 exact ((h2.symm.trans (c4w hi _ _)).symm.trans ((dcg.refl _).trans (dcg.of_eq (by grind)))).symm.trans (dcg.refl _)
theorem e08 {c S y : List Int} {s : Nat} (hs : s < 5) : ∀ i, i < 256 → dcg ((j9 (chD (J4 (fun i => a1i (zD c S y i)) 5) s)).getD i 0) ((j9 (chD y s)).getD i 0 + (j9 c).getD i 0 * (j9 (chD S s)).getD i 0) := by
 intro i hi
 rw [a0A (f := fun i => a1i (zD c S y i)) (fun j _ => (c6r _).1) hs, c4T]
 unfold zD
 rw [c08, c1l]
 exact (c4w hi _ _).trans ((dcg.refl _).add (b7E hi _ _))
theorem d2k {z m : Int} (hm : m ≤ 4190208) (h : -m ≤ z ∧ z ≤ m) : a44 z = z := by
 unfold a44
 split <;> omega
theorem d3F {xi c y : List Int} {r : Nat} (hr : r < 6) (hc : wt c ≤ 49) (ho : c8z c (R3 (a67 (a6h xi)) y) (eE (skD xi)) (lE (skD xi)) r) :
  upV (pkD xi) (hrow c (R3 (a67 (a6h xi)) y) (eE (skD xi)) (lE (skD xi))) c (a67 (a6h xi)) (J4 (fun i => a1i (zD c (sE (skD xi)) y i)) 5) r = (b1M (chD (R3 (a67 (a6h xi)) y) r)).1 := by
 have hp := d5M (m := a67 (a6h xi)) (y := y) (S := sE (skD xi)) (c := c) (e := chD (eE (skD xi)) r) (t0 := chD (lE (skD xi)) r) (tv := tV (pkD xi) r) (r := r) (fun s hs => e08 hs) (d8Y hr)
 have hw := c7F (a67 (a6h xi)) y hr
 unfold upV
 rw [hp, show a1F (a46 (a5x (a4R (a67 (a6h xi)) y r 5)) (a3S c (chD (eE (skD xi)) r))) (a3S c (chD (lE (skD xi)) r)) = a1F (b3Z c (R3 (a67 (a6h xi)) y) (eE (skD xi)) r) (c21 c (lE (skD xi)) r) by unfold b3Z c21; rw [hw]]
 have hh : chD (hrow c (R3 (a67 (a6h xi)) y) (eE (skD xi)) (lE (skD xi))) r = (htD c (R3 (a67 (a6h xi)) y) (eE (skD xi)) (lE (skD xi)) r).1 := a0A (f := fun r => (htD c (R3 (a67 (a6h xi)) y) (eE (skD xi)) (lE (skD xi)) r).1) (fun j _ => c1w _ _ _ _ j) hr
 rw [hh]
 have hrest : ∀ i, i < 256 → ∃ x : Int, (-196 ≤ x ∧ x ≤ 196) ∧ (b3Z c (R3 (a67 (a6h xi)) y) (eE (skD xi)) r).getD i 0 = ((chD (R3 (a67 (a6h xi)) y) r).getD i 0 - x) % 8380417 := fun i hi => by
  obtain ⟨x, hx, e⟩ := d3e (c := c) (e := chD (eE (skD xi)) r) hc (fun j hj => by
   rw [d58 hr]
   have h := c4S _ (b0B xi (5 + r)).1
   have h4 := c82 (b4o (J5 (a9x xi) 32 64 ++ c7G ((5 + r : Nat) : Int))).1 (b4o (J5 (a9x xi) 32 64 ++ c7G ((5 + r : Nat) : Int))).2
   exact c1L (by omega) (by rw [h]; exact h4) hj) hi
  refine ⟨x, hx, ?_⟩
  unfold b3Z
  rw [show (a46 (chD (R3 (a67 (a6h xi)) y) r) (a3S c (chD (eE (skD xi)) r))).getD i 0 = ((chD (R3 (a67 (a6h xi)) y) r).getD i 0 - (a3S c (chD (eE (skD xi)) r)).getD i 0) % 8380417 from d6 hi, e]
  omega
 have hwr : dred (chD (R3 (a67 (a6h xi)) y) r) := by rw [hw]; exact b1B _
 unfold c8z at ho
 unfold htD d00
 dsimp only
 generalize b3Z c (R3 (a67 (a6h xi)) y) (eE (skD xi)) r = rest at ho hrest ⊢
 generalize c21 c (lE (skD xi)) r = low at ho ⊢
 generalize chD (R3 (a67 (a6h xi)) y) r = w at hrest hwr ⊢
 unfold d6c b1M
 dsimp only
 refine A6 fun i hi => ?_
 rw [d6 hi]
 unfold a2U
 have e1 : (a1F rest low).getD i 0 = (rest.getD i 0 + low.getD i 0) % 8380417 := c3Q hi
 have e2 : (a46 dzeros low).getD i 0 = (0 - low.getD i 0) % 8380417 := by
  rw [show (a46 dzeros low).getD i 0 = (dzeros.getD i 0 - low.getD i 0) % 8380417 from d6 hi]
  unfold dzeros
  rw [List.getD_eq_getElem?_getD, List.getElem?_replicate, if_pos hi]
  rfl
 have b1 := c3T (c1L (m := 261887) (by omega) (show a0i low ≤ 261887 by have := ho.2; omega) hi)
 have b2 := c3T (c1L (m := 261691) (by omega) (show a0i (b1M rest).2 ≤ 261691 by have := ho.1; omega) hi)
 have b3 : (b1M rest).2.getD i 0 = fDl (rest.getD i 0) := by unfold b1M; dsimp only; exact d6 hi
 have b4 := d8G (rest.getD i 0)
 rw [b3, d2k (m := 261888) (by omega) (by omega)] at b2
 obtain ⟨x, hx, ex⟩ := hrest i hi
 have hwi := hwr.2 i
 have b5 : -261888 ≤ a44 ((0 - low.getD i 0) % 8380417) ∧ a44 ((0 - low.getD i 0) % 8380417) ≤ 261888 := by
  generalize low.getD i 0 = z at b1
  unfold a44 at b1 ⊢
  split at b1 <;> split <;> omega
 have hm := d5b (r := (rest.getD i 0 + low.getD i 0) % 8380417) (z := (0 - low.getD i 0) % 8380417) b5
 rw [e1, e2]
 refine hm.trans ?_
 have e3 : ((rest.getD i 0 + low.getD i 0) % 8380417 + (0 - low.getD i 0) % 8380417) % 8380417 = (w.getD i 0 - x) % 8380417 := by omega
 rw [e3]
 rw [ex] at b2
 exact d2P hwi hx (by omega)
end Go.Ax.TryP
set_option linter.unusedVariables false
namespace Go.Ax.TryP
open Go.Proofs
theorem d2l {xi msg ctx rnd : List Int} {j : Nat} (ho : okK (skD xi) msg ctx rnd j) : chV (pkD xi) msg ctx (c7K (skD xi) msg ctx rnd j) = ctK (skD xi) msg ctx rnd j := by
 have hct := (c9G (skD xi) msg ctx rnd j).1
 have hwt : wt (cK (skD xi) msg ctx rnd j) ≤ 49 := by
  have h := d4C (ctK (skD xi) msg ctx rnd j)
  rw [← d2d] at h
  exact h
 have hw : wK (skD xi) msg ctx rnd j = R3 (a67 (a6h xi)) (yK (skD xi) msg ctx rnd j) := by
  unfold wK
  rw [d9u]
 have hc : blF (ctK (skD xi) msg ctx rnd j) = cK (skD xi) msg ctx rnd j := by
  unfold cK
  exact Eq.refl _
 have hcd : ctK (skD xi) msg ctx rnd j = b9y (muS (skD xi) msg ctx) (hiD (wK (skD xi) msg ctx rnd j)) := by
  unfold ctK
  exact Eq.refl _
 unfold okK at ho
 unfold chV c7K
 rw [e0I hct ho, d9q hct, d6i, ← d2d, hc, ← d7o]
 dsimp only
 rw [b8R (n := 5) fun i hi => e0J hct ho hi]
 refine Eq.trans ?_ hcd.symm
 refine congrArg (b9y (muS (skD xi) msg ctx)) ?_
 rw [hw] at ho ⊢
 generalize yK (skD xi) msg ctx rnd j = y at ho ⊢
 generalize cK (skD xi) msg ctx rnd j = c at hwt ho ⊢
 unfold hiD
 exact b8R fun r hr => d3F hr hwt (ho.2.1 r hr)
theorem d37 {xi msg ctx rnd : List Int} {j : Nat} (hM : a30 (a6h xi)) (hctx : ctx.length ≤ 255) (hb : blE (ctK (skD xi) msg ctx rnd j) = 0) (ho : okK (skD xi) msg ctx rnd j) : d6u (pkD xi) msg ctx (c7K (skD xi) msg ctx rnd j) = 0 := by
 have hct := (c9G (skD xi) msg ctx rnd j).1
 have hl := (d6o ho).1
 have hch := d2l ho
 have hz : d7y (c7K (skD xi) msg ctx rnd j) := by unfold c7K; exact d9r hct ho
 have hh : (hV (c7K (skD xi) msg ctx rnd j)).2 = 0 := by unfold c7K; rw [e0I hct ho]
 have hc : J5 (c7K (skD xi) msg ctx rnd j) 0 48 = ctK (skD xi) msg ctx rnd j := by unfold c7K; exact d9q hct
 unfold d6u
 rw [if_neg (fun h => h (c6Z xi).1), if_neg (by omega), if_neg (fun h => h hl), a1D (fun h => h hz), if_neg (fun h => h hh), hc, ← d2c, if_neg (fun h => h hb), d6i, a1D (fun h => h hM), if_neg (fun h => h hch)]
theorem c0n : ∀ x r, b0E x = some r → ∃ N, Z4 N x = some r := by
 refine i0 (ks := V8) (rs := a6V) fun x hw hq => ⟨0, ?_⟩
 obtain ⟨(xi : List Int), (rnd : List Int), (msg : List Int), (ctx : List Int), (a : Int), u⟩ := x
 have hxi : xi.length = 32 ∧ bytes xi := c4h.1 hw.1
 have hrnd : rnd.length = 32 ∧ bytes rnd := c4h.1 hw.2.1
 have hmsg : msg.length ≤ maxLen ∧ bytes msg := N0.1 hw.2.2.1
 have hctx : ctx.length ≤ maxLen ∧ bytes ctx := N0.1 hw.2.2.2.1
 have ha : 0 ≤ a ∧ a ≤ 255 := a0n.1 hw.2.2.2.2.1
 show Z4 0 (xi, rnd, msg, ctx, a, u) = some true
 unfold Z4
 dsimp only
 rw [show a0J () = some true from d6J, Option.bind_some, if_neg (by simp), d8q ⟨mB (by simp), fun zs hzs => by
  rcases List.mem_cons.1 hzs with rfl | hzs
  ·exact hmsg
  ·rw [List.mem_singleton.1 hzs]; exact hctx⟩, Option.bind_some]
 by_cases hf : ∀ c ∈ [msg, ctx], c.length ≤ 6000
 ·rw [decide_eq_true hf, if_neg (by simp), c5X hxi, Option.bind_some]
  rcases d07 xi with ⟨⟨hB, hM⟩, hk⟩ | hk
  ·rw [hk]
   dsimp only
   have hn : IntKind.i64.wrap ((1 : Int) + Int.tmod (IntKind.i64.wrap a) 30) = 1 + a % 30 := by
    rw [c7 (x := a) (by omega) (by omega), b0w ha.1, c7 (by omega) (by omega)]
   have hs := d3L xi
   have hp := c6Z xi
   have hsk : (skD xi).length ≤ maxLen ∧ bytes (skD xi) := ⟨mB (by rw [hs.1]; omega), hs.2⟩
   rw [if_neg (by simp), hn, d6G (most := 1 + a % 30) hsk hmsg hctx hrnd (by omega), Option.bind_some]
   rcases d3K (skD xi) msg ctx rnd (1 + a % 30) with ⟨g1, g2, g3⟩ | ⟨k, -, h2, -, h4, h5, h6⟩
   ·rw [if_pos g2, g1, if_pos (by decide)]
    have g3 := g3 e0r
    generalize (c3D (skD xi) msg ctx rnd (1 + a % 30)).2 = e at g3 ⊢
    have : decide (e = 3) = decide (((ctx.length : Nat) : Int) > 255) := by
     rw [Bool.eq_iff_iff, decide_eq_true_iff, decide_eq_true_iff, g3]
     omega
    rw [this]
    exact congrArg some (decide_eq_true rfl)
   ·rw [h6]
    dsimp only
    have hv := d37 hM h2 h4 h5
    obtain ⟨hl, hby⟩ := d6o h5
    generalize c7K (skD xi) msg ctx rnd k = sig at hl hby hv ⊢
    rw [if_neg (by simp), if_pos (by rw [hl]; rfl), c0S ⟨mB (by rw [hp.1]; omega), hp.2⟩ hmsg hctx ⟨mB (by omega), hby⟩, Option.bind_some, hv]
    rfl
  ·rw [hk]
   dsimp only
   rw [if_pos (by decide)]
   rfl
 ·rw [decide_eq_false hf, if_pos (by simp), Option.bind_some]
  rfl
end Go.Ax.TryP
namespace Go.Ax.TryP
open Go.Proofs
noncomputable abbrev b9x : Sig := ⟨[.xs b8 32, .xs b8 32, .sl b8, .sl b8, .int .u8], [.bool], b0E⟩
theorem s_law16_DsaRight : c8 Try.prog 3 b9x := b5n (b3W c7t c8X b9o d1s b9p) c0n
end Go.Ax.TryP
