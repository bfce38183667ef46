/- A part of the proof: DgQ9, DgQ10, DgK, DgK2, DgK3, DgK4, DgQ11, DgS2, DgP2, DgQ12, DgQ13, DgW1. -/
import Derived.Test.YtbcjbgjidddnaaaDsaE
set_option linter.unusedVariables false
namespace Go.Ax.TryP
open Go.Proofs
theorem d6D {b : List Int} (hb : b.length ≤ maxLen ∧ bytes b) : G2 (4, b, ()) = some (c9x 4 b) :=
 d9 (ks := E9) (rs := F0) (x := (4, b, ())) ⟨d1K (d := 4) (by omega), N0.2 hb, trivial⟩ trivial
def smN (z : Int) : Prop := (0 ≤ z ∧ z < 8380417) ∧ -4 ≤ a44 z ∧ a44 z ≤ 4
theorem d5A : smN 0 := ⟨by omega, by unfold a44; omega⟩
theorem d6R (s : List Int) (t : Nat) : ∀ z ∈ a5W 4 s t, smN z := by
 intro z hz
 unfold a5W d6t at hz
 rw [if_neg (by decide)] at hz
 split at hz
 ·rename_i h
  rw [List.mem_singleton] at hz
  have := d2O s t
  subst hz
  refine ⟨by omega, ?_⟩
  unfold a44
  split <;> omega
 ·simp at hz
theorem b4o (s : List Int) : (c9x 4 s).1.length = 256 ∧ ∀ z ∈ (c9x 4 s).1, smN z := by
 have hz : z256.length = 256 ∧ ∀ z ∈ z256, smN z := ⟨c5F.1, fun z hz => by rw [List.eq_of_mem_replicate hz]; exact d5A⟩
 unfold c9x
 split
 ·exact hz
 ·split
  ·exact hz
  ·rename_i h
   have ha := c7P (d6R s) 2048
   generalize a1w (a5W 4 s) 2048 = A at h ha
   refine ⟨?_, fun z hz => ha z (List.mem_of_mem_take hz)⟩
   show (A.take 256).length = 256
   rw [List.length_take, Nat.min_eq_left (by omega)]
theorem d8t (s : List Int) : E7 256 (c9x 4 s).1 := ⟨(b4o s).1, fun z hz => by have := ((b4o s).2 z hz).1; omega⟩
theorem d8s {s : List Int} (h : s.length = 66) : (c9x 4 s).2 = 0 ∨ (c9x 4 s).2 = 130 := by
 unfold c9x
 rw [if_neg (by rw [h]; decide)]
 split
 ·exact .inr rfl
 ·exact .inl rfl
theorem c82 {a : List Int} (hl : a.length = 256) (h : ∀ z ∈ a, smN z) : a0i a ≤ 4 := (c99 (by omega)).2 fun i hi => by
 have := (h _ (a3m (a := a) (i := i) (by omega))).2
 unfold b1Q
 split <;> omega
theorem d2e (s : List Int) : inW 4 (a3a 4 (c9x 4 s).1) := c1y (m := 4) (by omega) (c82 (b4o s).1 (b4o s).2) (by omega) (by decide)
theorem b5H (xi : List Int) : (a9x xi).length = 128 := a0g _ _
theorem c9n (xi : List Int) : bytes (a9x xi) := a7U _ _
theorem b0B (xi : List Int) (i : Nat) : E7 256 (a9y xi i).1 := d8t _
theorem d9t (xi : List Int) : (J5 (a9x xi) 32 64).length = 64 ∧ bytes (J5 (a9x xi) 32 64) := ⟨R4 (by rw [b5H]; omega), D5 (c9n xi) _ _⟩
theorem d52 (xi : List Int) (i : Nat) : (a9y xi i).2 = 0 ∨ (a9y xi i).2 = 130 := d8s (by rw [List.length_append, (d9t xi).1]; rfl)
theorem d10 (xi : List Int) (i : Nat) : m7 ([List.take 64 (List.drop 32 (a9x xi)), c7G (i : Int)], ()) = some (J5 (a9x xi) 32 64 ++ c7G (i : Int)) ∧ G2 ((4 : Int), J5 (a9x xi) 32 64 ++ c7G (i : Int), ()) = some (a9y xi i) :=
 ⟨c9t (a := J5 (a9x xi) 32 64) ⟨by rw [(d9t xi).1]; omega, (d9t xi).2⟩ ⟨by rw [c5w]; omega, d0y _⟩, d6D ⟨mB (by rw [List.length_append, (d9t xi).1, c5w]; omega), K3 (d9t xi).2 (d0y _)⟩⟩
theorem e0B {xi Z X : List Int} (hZ : Z.length = 5 * 256) {n1 n2 n3 n4 n5 : Nat} {β : Type} (K : _ → Option β) :
  ((∀ i, i < 5 → (a9y xi i).2 = 0) → m9 (x6 10) 10 (n1, n2, n3, n4, (0 : Int), [0], n5, a9x xi, Z, X, ()) K = K (.inr (n1, n2, n3, n4, [0], n5, a9x xi, sK xi, X, ()))) ∧
  (¬ (∀ i, i < 5 → (a9y xi i).2 = 0) → m9 (x6 10) 10 (n1, n2, n3, n4, (0 : Int), [0], n5, a9x xi, Z, X, ()) K = K (.inl (130, [0], ()))) := by
 have h := c1B (F := x6 10) (K := K) (fun i => (n1, n2, n3, n4, (i : Int), [0], n5, a9x xi, a1u (fun i => (a9y xi i).1) Z i, X, ())) (fun i => (a9y xi i).2 = 0) (.inl (130, [0], ())) (.inr (n1, n2, n3, n4, [0], n5, a9x xi, sK xi, X, ())) 5
  (fun i hi kn => by
   obtain ⟨e1, e2⟩ := d10 xi i
   have hs := Q1 (f := fun i => (a9y xi i).1) hZ (fun j _ => (b0B xi j).1) hi
   constructor
   ·intro hc
    unfold x6
    dsimp only
    rw [if_pos (by omega), c54 (by omega), Option.bind_some, e1, Option.bind_some, e2, Option.bind_some, if_neg (fun h => h hc), if_pos (by omega), if_pos (by omega), if_pos (by omega), Int.toNat_natCast, hs, c7 (by omega) (by omega)]
    rfl
   ·intro hc
    unfold x6
    dsimp only
    rw [if_pos (by omega), c54 (by omega), Option.bind_some, e1, Option.bind_some, e2, Option.bind_some, if_pos hc, (d52 xi i).resolve_left hc])
  (fun kn => by
   unfold x6
   dsimp only
   rw [if_neg (by omega), Q0 hZ]
   rfl) 5 0 10 (by omega) (by omega)
 rw [E1] at h
 exact ⟨fun hh => h.1 fun r _ hr6 => hh r hr6, fun hh => h.2 fun hh' => hh fun r hr6 => hh' r (Nat.zero_le _) hr6⟩
theorem e0A {xi Z S : List Int} (hZ : Z.length = 6 * 256) {n1 n2 n3 n4 n5 : Nat} {β : Type} (K : _ → Option β) :
  ((∀ i, i < 6 → (a9y xi (5 + i)).2 = 0) → m9 (u9 10) 10 (n1, n2, n3, n4, (0 : Int), [0], n5, a9x xi, S, Z, ()) K = K (.inr (n1, n3, n4, [0], n5, a9x xi, S, eK xi, ()))) ∧
  (¬ (∀ i, i < 6 → (a9y xi (5 + i)).2 = 0) → m9 (u9 10) 10 (n1, n2, n3, n4, (0 : Int), [0], n5, a9x xi, S, Z, ()) K = K (.inl (130, [0], ()))) := by
 have h := c1B (F := u9 10) (K := K) (fun i => (n1, n2, n3, n4, (i : Int), [0], n5, a9x xi, S, a1u (fun i => (a9y xi (5 + i)).1) Z i, ())) (fun i => (a9y xi (5 + i)).2 = 0) (.inl (130, [0], ())) (.inr (n1, n3, n4, [0], n5, a9x xi, S, eK xi, ())) 6
  (fun i hi kn => by
   obtain ⟨e1, e2⟩ := d10 xi (5 + i)
   have hs := Q1 (f := fun i => (a9y xi (5 + i)).1) hZ (fun j _ => (b0B xi _).1) hi
   constructor
   ·intro hc
    unfold u9
    dsimp only
    rw [if_pos (by omega), c7 (x := (5 : Int) + (i : Int)) (by omega) (by omega), show (5 : Int) + (i : Int) = ((5 + i : Nat) : Int) by omega, c54 (by omega), Option.bind_some, e1, Option.bind_some, e2, Option.bind_some, if_neg (fun h => h hc), if_pos (by omega), if_pos (by omega), if_pos (by omega), Int.toNat_natCast, hs, c7 (by omega) (by omega)]
    rfl
   ·intro hc
    unfold u9
    dsimp only
    rw [if_pos (by omega), c7 (x := (5 : Int) + (i : Int)) (by omega) (by omega), show (5 : Int) + (i : Int) = ((5 + i : Nat) : Int) by omega, c54 (by omega), Option.bind_some, e1, Option.bind_some, e2, Option.bind_some, if_pos hc, (d52 xi _).resolve_left hc])
  (fun kn => by
   unfold u9
   dsimp only
   rw [if_neg (by omega), Q0 hZ]
   rfl) 6 0 10 (by omega) (by omega)
 rw [E1] at h
 exact ⟨fun hh => h.1 fun r _ hr6 => hh r hr6, fun hh => h.2 fun hh' => hh fun r hr6 => hh' r (Nat.zero_le _) hr6⟩
theorem d5k {a : List Int} {i : Nat} (hi : i < 256) : (c1o a).1.getD i 0 = fPh (a.getD i 0) ∧ (c1o a).2.getD i 0 = fPl (a.getD i 0) := by
 unfold c1o
 dsimp only
 exact ⟨d6 hi, d6 hi⟩
theorem d9b (a : List Int) : E7 256 (c1o a).1 ∧ E7 256 (c1o a).2 := ⟨rows.range fun i _ => by have := d69 (a.getD i 0); omega, rows.range fun i _ => by have := d8J (a.getD i 0); omega⟩
theorem d8U (a : List Int) : inW 10 (o8 (c1o a).1) := by
 intro i hi
 rw [a8N hi, (d5k hi).1]
 have := d69 (a.getD i 0)
 have h4 : (2 : Int) ^ 10 = 1024 := by decide
 omega
theorem d83 (a : List Int) : inW 13 (a3a 4096 (c1o a).2) := by
 intro i hi
 have e : (a3a 4096 (c1o a).2).getD i 0 = 4096 - (a1i (c1o a).2).getD i 0 := d6 hi
 rw [e, a6d hi, (d5k hi).2]
 have := d8J (a.getD i 0)
 have h4 : (2 : Int) ^ 13 = 8192 := by decide
 unfold a44
 split <;> omega
theorem a1b (xi : List Int) : (a6h xi).length = 32 ∧ bytes (a6h xi) := ⟨R4 (by rw [b5H]; omega), D5 (c9n xi) _ _⟩
theorem d7H (xi : List Int) (n : Nat) : (pkT xi n).length = 32 + n * 320 := by
 unfold pkT
 rw [List.length_append, (a1b xi).1, X0 (w := 320) fun i _ => a2O 10 _]
theorem d7X (xi : List Int) (n : Nat) : (tlT xi n).length = n * 416 := by
 unfold tlT
 rw [X0 (w := 416) fun i _ => a2O 13 _]
theorem e01 (xi : List Int) (r : Nat) : E7 256 (tK xi r) := b1L _ _
theorem e0Z (xi : List Int) : E7 (5 * 256) (sK xi) := a4x (f := fun i => (a9y xi i).1) (fun i => b0B xi i) 5
theorem e0S (xi : List Int) : E7 (6 * 256) (eK xi) := a4x (f := fun i => (a9y xi (5 + i)).1) (fun i => b0B xi _) 6
theorem e0V {xi : List Int} {n1 n2 n3 n4 : Nat} {S : List Int} {β : Type} (K : _ → Option β) :
  m9 (G5 10) 10 (32, n1, n2, n3, 0, (0 : Int), [0], 32, a6h xi, n4, a9x xi, S, eK xi, R3 (a67 (a6h xi)) (sK xi), 0, [], ()) K = K (.inr (32 + 6 * 320, n1, n2, n3, 0 + 6 * 416, [0], 32 + 6 * 320, pkT xi 6, n4, a9x xi, S, eK xi, 0 + 6 * 416, tlT xi 6, ())) := by
 refine i9 (F := G5 10) (s := fun i => (32 + i * 320, n1, n2, n3, 0 + i * 416, (i : Int), [0], 32 + i * 320, pkT xi i, n4, a9x xi, S, eK xi, R3 (a67 (a6h xi)) (sK xi), 0 + i * 416, tlT xi i, ())) (y := .inr (32 + 6 * 320, n1, n2, n3, 0 + 6 * 416, [0], 32 + 6 * 320, pkT xi 6, n4, a9x xi, S, eK xi, 0 + 6 * 416, tlT xi 6, ())) 6 (by simp [pkT, tlT, J4]) ?_ ?_ 10 (by omega)
 ·intro i hi kn
  have hT := d0x (a67 (a6h xi)) (sK xi)
  have e1 : Q4 (List.take 256 (List.drop (i * 256) (R3 (a67 (a6h xi)) (sK xi))), List.take 256 (List.drop (i * 256) (eK xi)), ()) = some (tK xi i) := c5U (a6s hT hi) (a6s (e0S xi) hi)
  have e2 := d8o (e01 xi i)
  have e3 : a2R ((10 : Int), (c1o (tK xi i)).1, ()) = some (pkW 10 (o8 (c1o (tK xi i)).1), 0) := c9p (d := 10) (by omega) (d9b _).1 (d8U _)
  have e4 : o0 ((4096 : Int), (13 : Int), (c1o (tK xi i)).2, ()) = some (pkW 13 (a3a 4096 (c1o (tK xi i)).2), 0) := a9D (d := 13) (by omega) (by omega) (d9b _).2 (d83 _)
  have f1 : pkT xi i ++ pkW 10 (o8 (c1o (tK xi i)).1) = pkT xi (i + 1) := by unfold pkT; rw [List.append_assoc]; rfl
  have f2 : tlT xi i ++ pkW 13 (a3a 4096 (c1o (tK xi i)).2) = tlT xi (i + 1) := rfl
  unfold G5
  dsimp only
  rw [if_pos (by omega), if_pos (by omega), if_pos (by omega), if_pos (by omega), if_pos (by omega), if_pos (by omega), if_pos (by omega), Int.toNat_natCast, e1, Option.bind_some, e2, Option.bind_some, e3, Option.bind_some, if_neg (by simp), a2O, if_pos (by omega), e4, Option.bind_some, if_neg (by simp), a2O, if_pos (by omega), f1, f2, c7 (by omega) (by omega), show 32 + i * 320 + 32 * 10 = 32 + (i + 1) * 320 by omega, show 0 + i * 416 + 32 * 13 = 0 + (i + 1) * 416 by omega, show (i : Int) + 1 = ((i + 1 : Nat) : Int) by omega]
 ·intro kn
  unfold G5
  dsimp only
  rw [if_neg (by omega)]
theorem c81 (xi : List Int) : (skH xi).length = 128 := by
 unfold skH
 rw [List.length_append, List.length_append, (a1b xi).1, R4 (by rw [b5H]; omega), a0g]
theorem c2L (xi : List Int) (n : Nat) : (skT xi n).length = 128 + n * 128 := by
 unfold skT
 rw [List.length_append, c81, X0 (w := 128) fun i _ => a2O 4 _]
theorem d0q (xi : List Int) (n : Nat) : skT xi n ++ pkW 4 (a3a 4 (a9y xi n).1) = skT xi (n + 1) := by
 unfold skT
 rw [List.append_assoc]
 rfl
theorem e0T {xi : List Int} {n1 n2 n4 n5 : Nat} {P X T : List Int} {β : Type} (K : _ → Option β) :
  m9 (G6 10) 10 (n1, 128 + 0 * 128, n2, (0 : Int), [0], n4, P, 128 + 0 * 128, skT xi 0, sK xi, X, n5, T, ()) K = K (.inr (n1, 128 + 5 * 128, n2, [0], n4, P, 128 + 5 * 128, skT xi 5, X, n5, T, ())) := by
 refine i9 (F := G6 10) (s := fun i => (n1, 128 + i * 128, n2, (i : Int), [0], n4, P, 128 + i * 128, skT xi i, sK xi, X, n5, T, ())) (y := .inr (n1, 128 + 5 * 128, n2, [0], n4, P, 128 + 5 * 128, skT xi 5, X, n5, T, ())) 5 rfl ?_ ?_ 10 (by omega)
 ·intro i hi kn
  have e4 : o0 ((4 : Int), (4 : Int), (a9y xi i).1, ()) = some (pkW 4 (a3a 4 (a9y xi i).1), 0) := a9D (d := 4) (by omega) (by omega) (b0B xi i) (d2e _)
  have e5 : List.take 256 (List.drop (i * 256) (sK xi)) = (a9y xi i).1 := a0A (f := fun i => (a9y xi i).1) (fun j _ => (b0B xi j).1) hi
  unfold G6
  dsimp only
  rw [if_pos (by omega), if_pos (by omega), if_pos (by omega), Int.toNat_natCast, if_pos (by omega), e5, e4, Option.bind_some, if_neg (by simp), a2O, if_pos (by omega), d0q, c7 (by omega) (by omega), show 128 + i * 128 + 32 * 4 = 128 + (i + 1) * 128 by omega, show (i : Int) + 1 = ((i + 1 : Nat) : Int) by omega]
 ·intro kn
  unfold G6
  dsimp only
  rw [if_neg (by omega)]
theorem e0U {xi : List Int} {n1 n2 n4 n5 : Nat} {P T : List Int} {β : Type} (K : _ → Option β) :
  m9 (G7 10) 10 (n1, 128 + 5 * 128, n2, (0 : Int), [0], n4, P, 128 + 5 * 128, skT xi 5, eK xi, n5, T, ()) K = K (.inr (n1, 128 + 11 * 128, n2, [0], n4, P, 128 + 11 * 128, skT xi 11, n5, T, ())) := by
 refine i9 (F := G7 10) (s := fun i => (n1, 128 + (5 + i) * 128, n2, (i : Int), [0], n4, P, 128 + (5 + i) * 128, skT xi (5 + i), eK xi, n5, T, ())) (y := .inr (n1, 128 + 11 * 128, n2, [0], n4, P, 128 + 11 * 128, skT xi 11, n5, T, ())) 6 rfl ?_ ?_ 10 (by omega)
 ·intro i hi kn
  have e4 : o0 ((4 : Int), (4 : Int), (a9y xi (5 + i)).1, ()) = some (pkW 4 (a3a 4 (a9y xi (5 + i)).1), 0) := a9D (d := 4) (by omega) (by omega) (b0B xi _) (d2e _)
  have e5 : List.take 256 (List.drop (i * 256) (eK xi)) = (a9y xi (5 + i)).1 := a0A (f := fun i => (a9y xi (5 + i)).1) (fun j _ => (b0B xi _).1) hi
  unfold G7
  dsimp only
  rw [if_pos (by omega), if_pos (by omega), if_pos (by omega), Int.toNat_natCast, if_pos (by omega), e5, e4, Option.bind_some, if_neg (by simp), a2O, if_pos (by omega), d0q, c7 (by omega) (by omega), show 128 + (5 + i) * 128 + 32 * 4 = 128 + (5 + (i + 1)) * 128 by omega, show 5 + i + 1 = 5 + (i + 1) by omega, show (i : Int) + 1 = ((i + 1 : Nat) : Int) by omega]
 ·intro kn
  unfold G7
  dsimp only
  rw [if_neg (by omega)]
end Go.Ax.TryP
set_option linter.unusedVariables false
namespace Go.Ax.TryP
open Go.Proofs
theorem c4U (xi : List Int) : d88 xi ↔ (∀ i, i < 5 → (a9y xi i).2 = 0) ∧ ∀ i, i < 6 → (a9y xi (5 + i)).2 = 0 := by
 constructor
 ·intro h
  exact ⟨fun i hi => h i (by omega), fun i hi => h (5 + i) (by omega)⟩
 ·intro h i hi
  by_cases h5 : i < 5
  ·exact h.1 i h5
  ·have := h.2 (i - 5) (by omega)
   rwa [show 5 + (i - 5) = i by omega] at this
theorem c6Z (xi : List Int) : (pkD xi).length = 1952 ∧ bytes (pkD xi) := ⟨d7H xi 6, K3 (a1b xi).2 (a8y (fun i => b2E 10 _) 6)⟩
theorem c68 : ∀ x r, a2S x = some r → ∃ N, a5i N x = some r := by
 refine i0 (ks := a0Z) (rs := a00) fun x hw hq => ⟨10, ?_⟩
 obtain ⟨(xi : List Int), u⟩ := x
 have hxi : xi.length = 32 ∧ bytes xi := c4h.1 hw.1
 show a5i 10 (xi, u) = some (d4g xi)
 unfold a5i d4g
 dsimp only
 have hZ5 : (List.replicate 1280 (0 : Int)).length = 5 * 256 := by rw [List.length_replicate]
 have hZ6 : (List.replicate 1536 (0 : Int)).length = 6 * 256 := by rw [List.length_replicate]
 generalize List.replicate 1280 (0 : Int) = Z5 at hZ5 ⊢
 generalize List.replicate 1536 (0 : Int) = Z6 at hZ6 ⊢
 have e1 : J6 ((128 : Int), [List.take 32 (List.drop 0 xi), List.set (List.set (List.replicate 2 0) 0 (6 : Int)) 1 (5 : Int)], ()) = some (a9x xi) := by
  rw [show List.set (List.set (List.replicate 2 0) 0 (6 : Int)) 1 (5 : Int) = [6, 5] from rfl, List.drop_zero, List.take_of_length_le (by omega)]
  have e := b7A (n := 128) (l := [xi, [6, 5]]) (by omega) ⟨mB (by simp), fun zs hzs => by
   rcases List.mem_cons.1 hzs with rfl | hzs
   ·exact ⟨mB (by omega), hxi.2⟩
   ·rw [List.mem_singleton.1 hzs]
    refine ⟨mB (by simp), fun z hz => ?_⟩
    rcases List.mem_cons.1 hz with rfl | hz
    ·omega
    ·rw [List.mem_singleton.1 hz]; omega⟩
  refine e.trans ?_
  unfold a9x
  simp
 have hl := b5H xi
 rw [e1, Option.bind_some, hl, if_pos (by omega), if_pos (by omega), if_pos (by omega), if_pos (by omega), show 128 - 32 = 96 from rfl, show 128 - 96 = 32 from rfl]
 by_cases c1 : ∀ i, i < 5 → (a9y xi i).2 = 0
 ·refine ((e0B (xi := xi) hZ5 _).1 c1).trans ?_
  dsimp only
  by_cases c2 : ∀ i, i < 6 → (a9y xi (5 + i)).2 = 0
  ·refine ((e0A (xi := xi) hZ6 _).1 c2).trans ?_
   dsimp only
   rw [show List.take 32 (List.drop 0 (a9x xi)) = a6h xi from rfl, c0T (a1b xi), Option.bind_some]
   by_cases c3 : a30 (a6h xi)
   ·have hmi := d28 (a6h xi)
    rw [b5L c3, if_neg (by simp), a5u ⟨(c4U xi).2 ⟨c1, c2⟩, c3⟩, show xg (some (false, (130 : Int), (a67 (a6h xi), ()))) = some (a67 (a6h xi), ()) from rfl, Option.bind_some, c51 hmi (e0Z xi), Option.bind_some, c9s ⟨by rw [(a1b xi).1]; omega, (a1b xi).2⟩, Option.bind_some, (a1b xi).1]
    refine (e0V (xi := xi) _).trans ?_
    dsimp only
    have hp := c6Z xi
    have e2 : J6 ((64 : Int), [pkT xi 6], ()) = some (a3Q (pkD xi) 64) := by
     have e := b7A (n := 64) (l := [pkD xi]) (by omega) ⟨mB (by simp), fun zs hzs => by rw [List.mem_singleton.1 hzs]; exact ⟨mB (by rw [hp.1]; omega), hp.2⟩⟩
     refine e.trans ?_
     simp
    have e3 : m7 ([List.take 32 (List.drop 0 (a9x xi)), List.take 32 (List.drop 96 (a9x xi)), a3Q (pkD xi) 64], ()) = some (skT xi 0) := by
     have hk : (J5 (a9x xi) 96 32).length = 32 ∧ bytes (J5 (a9x xi) 96 32) := ⟨R4 (by omega), D5 (c9n xi) _ _⟩
     have e := c0N (l := [a6h xi, J5 (a9x xi) 96 32, a3Q (pkD xi) 64]) ⟨by simp, by simp [(a1b xi).1, hk.1, a0g]⟩ ⟨mB (by simp), fun zs hzs => by
      rcases List.mem_cons.1 hzs with rfl | hzs
      ·exact ⟨mB (by rw [(a1b xi).1]; omega), (a1b xi).2⟩
      rcases List.mem_cons.1 hzs with rfl | hzs
      ·exact ⟨mB (by rw [hk.1]; omega), hk.2⟩
      ·rw [List.mem_singleton.1 hzs]; exact ⟨mB (by rw [a0g]; omega), a7U _ _⟩⟩
     refine e.trans ?_
     simp [skT, skH, J4]
    have f1 : (skT xi 0).length = 128 + 0 * 128 := c2L xi 0
    rw [e2, Option.bind_some, e3, Option.bind_some, f1]
    refine (e0T (xi := xi) _).trans ?_
    dsimp only
    refine (e0U (xi := xi) _).trans ?_
    dsimp only
    rw [if_pos (by omega)]
    rfl
   ·rw [b2T c3, if_pos rfl, a1D (fun h => c3 h.2)]
    rfl
  ·refine ((e0A (xi := xi) hZ6 _).2 c2).trans ?_
   rw [a1D (fun h => c2 ((c4U xi).1 h.1).2)]
   rfl
 ·refine ((e0B (xi := xi) hZ5 _).2 c1).trans ?_
  rw [a1D (fun h => c1 ((c4U xi).1 h.1).1)]
  rfl
theorem c5X {xi : List Int} (h : xi.length = 32 ∧ bytes xi) : a2S (xi, ()) = some (d4g xi) :=
 d9 (ks := a0Z) (rs := a00) (x := (xi, ())) ⟨c4h.2 h, trivial⟩ trivial
end Go.Ax.TryP
set_option linter.unusedVariables false
namespace Go.Ax.TryP
open Go.Proofs
def frc {α : Type} (n : Nat) (f : Nat → α) : α := match n with
 | 0 => f 0
 | Nat.succ k => f (Nat.succ k)
theorem c1u {α : Type} (n : Nat) (f : Nat → α) : frc n f = f n := by cases n <;> rfl
def c6u {α : Type} : List Nat → (List Nat → α) → α
 | [], K => K []
 | a :: l, K => frc a fun v => c6u l fun l' => K (v :: l')
theorem a9K {α : Type} : ∀ (l : List Nat) (K : List Nat → α), c6u l K = K l
 | [], K => rfl
 | a :: l, K => by unfold c6u; rw [c1u, a9K l]
def cl (s : List Nat) : List Int := s.map fun (n : Nat) => (n : Int)
def g0 (s : List Nat) (i : Nat) : Nat := s.getD i 0
theorem b1w (s : List Nat) (i : Nat) : at0 (cl s) i = (g0 s i : Int) := by
 unfold at0 cl g0
 rw [List.getD_eq_getElem?_getD, List.getD_eq_getElem?_getD, List.getElem?_map]
 cases s[i]? <;> rfl
def c5J (s : List Nat) : Prop := ∀ z ∈ s, z < 2 ^ 64
theorem a0j {s : List Nat} (h : c5J s) (i : Nat) : g0 s i < 2 ^ 64 := by
 unfold g0
 rw [List.getD_eq_getElem?_getD]
 cases he : s[i]? with
 | none => decide
 | some v => exact h v (List.mem_of_getElem? he)
def b2I (a n : Nat) : Nat := Nat.lor (Nat.mod (Nat.mul a (Nat.pow 2 n)) 18446744073709551616) (Nat.div a (Nat.pow 2 (Nat.sub 64 n)))
theorem d0k (a n : Nat) : b2I a n = (a * 2 ^ n % 2 ^ 64) ||| (a / 2 ^ (64 - n)) := rfl
theorem c8S {a n : Nat} (h : a < 2 ^ 64) : b2I a n < 2 ^ 64 := by
 rw [d0k]
 exact Nat.or_lt_two_pow (Nat.mod_lt _ (by decide)) (Nat.lt_of_le_of_lt (Nat.div_le_self _ _) h)
theorem b0A {a b : Nat} (ha : a < 2 ^ 64) (hb : b < 2 ^ 64) : x64 (a : Int) (b : Int) = ((Nat.xor a b : Nat) : Int) := c4P rfl ha hb
theorem a37 {a b : Nat} (ha : a < 2 ^ 64) (hb : b < 2 ^ 64) : Nat.xor a b < 2 ^ 64 := Nat.xor_lt_two_pow ha hb
theorem d23 {a b : Nat} (ha : a < 2 ^ 64) : Nat.land a b < 2 ^ 64 := Nat.lt_of_le_of_lt Nat.and_le_left ha
theorem d3B {a n : Nat} (ha : a < 2 ^ 64) (hn : n < 64) : rot (a : Int) (n : Int) = (b2I a n : Int) := by
 unfold rot
 rw [d0k]
 by_cases h0 : n = 0
 ·subst h0
  rw [if_pos (show ((0 : Nat) : Int) = 0 from rfl), Nat.pow_zero, Nat.mul_one, Nat.mod_eq_of_lt ha, Nat.sub_zero, Nat.div_eq_of_lt ha, Nat.or_zero]
 ·rw [if_neg (by omega), show (64 : Int) - (n : Int) = ((64 - n : Nat) : Int) by omega, a9N (by simp [IntKind.bits])]
  have e : b0Z .u64 (a : Int) (n : Int) = ((a * 2 ^ n % 2 ^ 64 : Nat) : Int) := by
   unfold b0Z
   rw [Int.toNat_natCast, Nat.min_eq_left (by simp [IntKind.bits]; omega)]
   simp [IntKind.wrap, IntKind.signed, IntKind.bits]
  rw [e]
  exact c4L rfl (Nat.mod_lt _ (by decide)) (Nat.lt_of_le_of_lt (Nat.div_le_self _ _) ha)
def c8x : List Nat := [0, 1, 62, 28, 27, 36, 44, 6, 55, 20, 3, 10, 43, 25, 39, 41, 45, 15, 21, 8, 18, 2, 61, 56, 14]
def d2p : List Nat := [0x0000000000000001, 0x0000000000008082, 0x800000000000808a, 0x8000000080008000, 0x000000000000808b, 0x0000000080000001, 0x8000000080008081, 0x8000000000008009, 0x000000000000008a, 0x0000000000000088, 0x0000000080008009, 0x000000008000000a, 0x000000008000808b, 0x800000000000008b, 0x8000000000008089, 0x8000000000008003, 0x8000000000008002, 0x8000000000000080, 0x000000000000800a, 0x800000008000000a, 0x8000000080008081, 0x8000000000008080, 0x0000000080000001, 0x8000000080008008]
theorem d7t : offs = cl c8x := rfl
theorem d6U : cons = cl d2p := rfl
theorem d7u (i : Nat) : g0 c8x i < 64 := by
 unfold g0
 rw [List.getD_eq_getElem?_getD]
 cases he : c8x[i]? with
 | none => decide
 | some v => exact (by decide : ∀ z ∈ c8x, z < 64) v (List.mem_of_getElem? he)
def cFN (s : List Nat) (x : Nat) : Nat := Nat.xor (Nat.xor (Nat.xor (Nat.xor (g0 s x) (g0 s (x + 5))) (g0 s (x + 10))) (g0 s (x + 15))) (g0 s (x + 20))
def dFN (s : List Nat) (x : Nat) : Nat := Nat.xor (cFN s ((x + 4) % 5)) (b2I (cFN s ((x + 1) % 5)) 1)
def tFN (s : List Nat) (i : Nat) : Nat := b2I (Nat.xor (g0 s i) (dFN s (i % 5))) (g0 c8x i)
def bFN (s : List Nat) (j : Nat) : Nat := tFN s (d43 j)
def eFN (b : Nat → Nat) (i : Nat) : Nat := Nat.xor (b i) (Nat.land (Nat.xor 18446744073709551615 (b (i / 5 * 5 + (i + 1) % 5))) (b (i / 5 * 5 + (i + 2) % 5)))
def d8f (s : List Nat) : List Nat := (List.range 25).map (eFN (bFN s))
def d7M (s : List Nat) (c : Nat) : List Nat := (d8f s).set 0 (Nat.xor (g0 (d8f s) 0) c)
theorem c6a {s : List Nat} (h : c5J s) (x : Nat) : cFN s x < 2 ^ 64 := a37 (a37 (a37 (a37 (a0j h _) (a0j h _)) (a0j h _)) (a0j h _)) (a0j h _)
theorem d8u {s : List Nat} (h : c5J s) (x : Nat) : cF (cl s) x = (cFN s x : Int) := by
 have a0 := a0j h x
 have a1 := a0j h (x + 5)
 have a2 := a0j h (x + 10)
 have a3 := a0j h (x + 15)
 have a4 := a0j h (x + 20)
 unfold cF cFN
 rw [b1w, b1w, b1w, b1w, b1w, b0A a0 a1, b0A (a37 a0 a1) a2, b0A (a37 (a37 a0 a1) a2) a3, b0A (a37 (a37 (a37 a0 a1) a2) a3) a4]
theorem d2u {s : List Nat} (h : c5J s) (x : Nat) : dFN s x < 2 ^ 64 := a37 (c6a h _) (c8S (c6a h _))
theorem d98 {s : List Nat} (h : c5J s) (x : Nat) : dF (cl s) x = (dFN s x : Int) := by
 unfold dF dFN
 rw [d8u h, d8u h, show (1 : Int) = ((1 : Nat) : Int) from rfl, d3B (c6a h _) (by omega), b0A (c6a h _) (c8S (c6a h _))]
theorem d5X {s : List Nat} (h : c5J s) (j : Nat) : bFN s j < 2 ^ 64 := c8S (a37 (a0j h _) (d2u h _))
theorem d90 {s : List Nat} (h : c5J s) (j : Nat) : bF (cl s) j = (bFN s j : Int) := by
 unfold bF tF bFN tFN
 have e : offs.getD (d43 j) 0 = (g0 c8x (d43 j) : Int) := by rw [d7t]; exact b1w c8x _
 rw [b1w, d98 h, b0A (a0j h _) (d2u h _), e, d3B (a37 (a0j h _) (d2u h _)) (d7u _)]
theorem d8C {b : Nat → Nat} (h : ∀ j, b j < 2 ^ 64) (i : Nat) : eFN b i < 2 ^ 64 := a37 (h _) (d23 (a37 (by decide) (h _)))
theorem e0a {b : Nat → Nat} {b' : Nat → Int} (h : ∀ j, b j < 2 ^ 64) (e : ∀ j, b' j = (b j : Int)) (i : Nat) : eF b' i = (eFN b i : Int) := by
 unfold eF eFN
 rw [e, e, e, show (18446744073709551615 : Int) = ((18446744073709551615 : Nat) : Int) from rfl, c4P rfl (by decide) (h _)]
 have h1 : 18446744073709551615 ^^^ b (i / 5 * 5 + (i + 1) % 5) < 2 ^ 64 := a37 (by decide) (h _)
 rw [b5Y rfl h1 (h _)]
 exact b0A (h _) (d23 h1)
theorem c1I {s : List Nat} (h : c5J s) : c5J (d8f s) := by
 intro z hz
 obtain ⟨i, -, rfl⟩ := List.mem_map.1 hz
 exact d8C (d5X h) i
theorem d7m {s : List Nat} (h : c5J s) : d5c (cl s) = cl (d8f s) := by
 unfold d5c d8f cl
 rw [List.map_map]
 exact List.map_congr_left fun i _ => e0a (d5X h) (d90 h) i
theorem d3C {s : List Nat} (h : c5J s) {c : Nat} (hc : c < 2 ^ 64) : d0l (cl s) (c : Int) = cl (d7M s c) := by
 unfold d0l d7M
 rw [d7m h, b1w, b0A (a0j (c1I h) 0) hc]
 unfold cl
 rw [List.map_set]
theorem c9W {s : List Nat} (h : c5J s) {i v : Nat} (hv : v < 2 ^ 64) : c5J (s.set i v) := by
 intro z hz
 rcases List.mem_or_eq_of_mem_set hz with hz | rfl
 ·exact h z hz
 ·exact hv
theorem d3A {s : List Nat} (h : c5J s) {c : Nat} (hc : c < 2 ^ 64) : c5J (d7M s c) := c9W (c1I h) (a37 (a0j (c1I h) 0) hc)
theorem d5s (s : List Nat) (c : Nat) : (d7M s c).length = 25 := by simp [d7M, d8f]
def rnd (s : List Nat) (c : Nat) : List Nat := match s with
 | [a0, a1, a2, a3, a4, a5, a6, a7, a8, a9, a10, a11, a12, a13, a14, a15, a16, a17, a18, a19, a20, a21, a22, a23, a24] =>
  frc (Nat.xor (Nat.xor (Nat.xor (Nat.xor a0 a5) a10) a15) a20) fun c0 =>
  frc (Nat.xor (Nat.xor (Nat.xor (Nat.xor a1 a6) a11) a16) a21) fun c1 =>
  frc (Nat.xor (Nat.xor (Nat.xor (Nat.xor a2 a7) a12) a17) a22) fun c2 =>
  frc (Nat.xor (Nat.xor (Nat.xor (Nat.xor a3 a8) a13) a18) a23) fun c3 =>
  frc (Nat.xor (Nat.xor (Nat.xor (Nat.xor a4 a9) a14) a19) a24) fun c4 =>
  frc (Nat.xor c4 (b2I c1 1)) fun d0 =>
  frc (Nat.xor c0 (b2I c2 1)) fun d1 =>
  frc (Nat.xor c1 (b2I c3 1)) fun d2 =>
  frc (Nat.xor c2 (b2I c4 1)) fun d3 =>
  frc (Nat.xor c3 (b2I c0 1)) fun d4 =>
  frc (b2I (Nat.xor a0 d0) 0) fun b0 =>
  frc (b2I (Nat.xor a6 d1) 44) fun b1 =>
  frc (b2I (Nat.xor a12 d2) 43) fun b2 =>
  frc (b2I (Nat.xor a18 d3) 21) fun b3 =>
  frc (b2I (Nat.xor a24 d4) 14) fun b4 =>
  frc (b2I (Nat.xor a3 d3) 28) fun b5 =>
  frc (b2I (Nat.xor a9 d4) 20) fun b6 =>
  frc (b2I (Nat.xor a10 d0) 3) fun b7 =>
  frc (b2I (Nat.xor a16 d1) 45) fun b8 =>
  frc (b2I (Nat.xor a22 d2) 61) fun b9 =>
  frc (b2I (Nat.xor a1 d1) 1) fun b10 =>
  frc (b2I (Nat.xor a7 d2) 6) fun b11 =>
  frc (b2I (Nat.xor a13 d3) 25) fun b12 =>
  frc (b2I (Nat.xor a19 d4) 8) fun b13 =>
  frc (b2I (Nat.xor a20 d0) 18) fun b14 =>
  frc (b2I (Nat.xor a4 d4) 27) fun b15 =>
  frc (b2I (Nat.xor a5 d0) 36) fun b16 =>
  frc (b2I (Nat.xor a11 d1) 10) fun b17 =>
  frc (b2I (Nat.xor a17 d2) 15) fun b18 =>
  frc (b2I (Nat.xor a23 d3) 56) fun b19 =>
  frc (b2I (Nat.xor a2 d2) 62) fun b20 =>
  frc (b2I (Nat.xor a8 d3) 55) fun b21 =>
  frc (b2I (Nat.xor a14 d4) 39) fun b22 =>
  frc (b2I (Nat.xor a15 d0) 41) fun b23 =>
  frc (b2I (Nat.xor a21 d1) 2) fun b24 =>
  [Nat.xor (Nat.xor b0 (Nat.land (Nat.xor 18446744073709551615 b1) b2)) c, Nat.xor b1 (Nat.land (Nat.xor 18446744073709551615 b2) b3), Nat.xor b2 (Nat.land (Nat.xor 18446744073709551615 b3) b4), Nat.xor b3 (Nat.land (Nat.xor 18446744073709551615 b4) b0), Nat.xor b4 (Nat.land (Nat.xor 18446744073709551615 b0) b1), Nat.xor b5 (Nat.land (Nat.xor 18446744073709551615 b6) b7), Nat.xor b6 (Nat.land (Nat.xor 18446744073709551615 b7) b8), Nat.xor b7 (Nat.land (Nat.xor 18446744073709551615 b8) b9), Nat.xor b8 (Nat.land (Nat.xor 18446744073709551615 b9) b5), Nat.xor b9 (Nat.land (Nat.xor 18446744073709551615 b5) b6), Nat.xor b10 (Nat.land (Nat.xor 18446744073709551615 b11) b12), Nat.xor b11 (Nat.land (Nat.xor 18446744073709551615 b12) b13), Nat.xor b12 (Nat.land (Nat.xor 18446744073709551615 b13) b14), Nat.xor b13 (Nat.land (Nat.xor 18446744073709551615 b14) b10), Nat.xor b14 (Nat.land (Nat.xor 18446744073709551615 b10) b11), Nat.xor b15 (Nat.land (Nat.xor 18446744073709551615 b16) b17), Nat.xor b16 (Nat.land (Nat.xor 18446744073709551615 b17) b18), Nat.xor b17 (Nat.land (Nat.xor 18446744073709551615 b18) b19), Nat.xor b18 (Nat.land (Nat.xor 18446744073709551615 b19) b15), Nat.xor b19 (Nat.land (Nat.xor 18446744073709551615 b15) b16), Nat.xor b20 (Nat.land (Nat.xor 18446744073709551615 b21) b22), Nat.xor b21 (Nat.land (Nat.xor 18446744073709551615 b22) b23), Nat.xor b22 (Nat.land (Nat.xor 18446744073709551615 b23) b24), Nat.xor b23 (Nat.land (Nat.xor 18446744073709551615 b24) b20), Nat.xor b24 (Nat.land (Nat.xor 18446744073709551615 b20) b21)]
 | _ => []
theorem d9k (a0 a1 a2 a3 a4 a5 a6 a7 a8 a9 a10 a11 a12 a13 a14 a15 a16 a17 a18 a19 a20 a21 a22 a23 a24 c : Nat) : rnd [a0, a1, a2, a3, a4, a5, a6, a7, a8, a9, a10, a11, a12, a13, a14, a15, a16, a17, a18, a19, a20, a21, a22, a23, a24] c = d7M [a0, a1, a2, a3, a4, a5, a6, a7, a8, a9, a10, a11, a12, a13, a14, a15, a16, a17, a18, a19, a20, a21, a22, a23, a24] c := by
 unfold rnd
 simp only [c1u]
 rfl
theorem e0f : ∀ {s : List Nat}, s.length = 25 → ∃ a0 a1 a2 a3 a4 a5 a6 a7 a8 a9 a10 a11 a12 a13 a14 a15 a16 a17 a18 a19 a20 a21 a22 a23 a24, s = [a0, a1, a2, a3, a4, a5, a6, a7, a8, a9, a10, a11, a12, a13, a14, a15, a16, a17, a18, a19, a20, a21, a22, a23, a24]
 | [a0, a1, a2, a3, a4, a5, a6, a7, a8, a9, a10, a11, a12, a13, a14, a15, a16, a17, a18, a19, a20, a21, a22, a23, a24], _ => ⟨a0, a1, a2, a3, a4, a5, a6, a7, a8, a9, a10, a11, a12, a13, a14, a15, a16, a17, a18, a19, a20, a21, a22, a23, a24, rfl⟩
theorem d7N {s : List Nat} (h : s.length = 25) (c : Nat) : rnd s c = d7M s c := by
 obtain ⟨a0, a1, a2, a3, a4, a5, a6, a7, a8, a9, a10, a11, a12, a13, a14, a15, a16, a17, a18, a19, a20, a21, a22, a23, a24, rfl⟩ := e0f h
 exact d9k a0 a1 a2 a3 a4 a5 a6 a7 a8 a9 a10 a11 a12 a13 a14 a15 a16 a17 a18 a19 a20 a21 a22 a23 a24 c
end Go.Ax.TryP
set_option linter.unusedVariables false
namespace Go.Ax.TryP
open Go.Proofs
def c6Y : Nat → List Nat → List Nat
 | 0, s => s
 | n + 1, s => rnd (c6Y n s) (g0 d2p n)
def a3O (s : List Nat) : List Nat := c6Y 24 s
def c5I (s : List Nat) : Prop := s.length = 25 ∧ c5J s
theorem d2q (i : Nat) : g0 d2p i < 2 ^ 64 := a0j (by unfold c5J; decide) i
theorem c2m {s : List Nat} (h : c5I s) : ∀ n, c5I (c6Y n s) ∧ d1j n (cl s) = cl (c6Y n s)
 | 0 => ⟨h, rfl⟩
 | n + 1 => by
  obtain ⟨⟨hl, hg⟩, e⟩ := c2m h n
  have e1 : cons.getD n 0 = (g0 d2p n : Int) := by rw [d6U]; exact b1w d2p n
  unfold c6Y d1j
  rw [d7N hl, e, e1]
  exact ⟨⟨d5s _ _, d3A hg (d2q n)⟩, d3C hg (d2q n)⟩
theorem b8I {s : List Nat} (h : c5I s) : c5I (a3O s) := (c2m h 24).1
theorem c49 {s : List Nat} (h : c5I s) : c3p (cl s) = cl (a3O s) := (c2m h 24).2
def d1M (s : List Nat) (p x : Nat) : List Nat := s.set (Nat.div p 8) (Nat.xor (g0 s (Nat.div p 8)) (Nat.mul x (Nat.pow 2 (Nat.mul 8 (Nat.mod p 8)))))
theorem c7Y {x p : Nat} (hx : x < 256) : x * 2 ^ (8 * (p % 8)) < 2 ^ 64 := by
 have h : 2 ^ (8 * (p % 8)) ≤ 2 ^ 56 := Nat.pow_le_pow_right (by decide) (by omega)
 have h1 : x * 2 ^ (8 * (p % 8)) ≤ 255 * 2 ^ 56 := Nat.mul_le_mul (by omega) h
 omega
theorem c2o {s : List Nat} (h : c5I s) {p x : Nat} (hx : x < 256) : c5I (d1M s p x) :=
 ⟨by unfold d1M; rw [List.length_set]; exact h.1, c9W h.2 (a37 (a0j h.2 _) (c7Y hx))⟩
theorem c8G {s : List Nat} (h : c5I s) {p x : Nat} (hx : x < 256) : d4i (cl s) p (x : Int) = cl (d1M s p x) := by
 have e : b0Z .u64 (x : Int) ((8 * (p % 8) : Nat) : Int) = ((x * 2 ^ (8 * (p % 8)) : Nat) : Int) := c4N rfl (by simp [IntKind.bits]; omega) (c7Y hx)
 unfold d4i
 rw [b1w, e, b0A (a0j h.2 _) (c7Y hx)]
 unfold cl d1M
 rw [List.map_set]
 rfl
def d2G {α : Type} (rate : Nat) : List Nat → List Nat → Nat → (List Nat → Nat → α) → α
 | [], s, p, K => K s p
 | x :: l, s, p, K => frc (Nat.succ p) fun q => match Nat.beq q rate with
  | true => c6u (a3O (d1M s p x)) fun s' => d2G rate l s' 0 K
  | false => c6u (d1M s p x) fun s' => d2G rate l s' q K
def b1z (l : List Nat) : Prop := ∀ z ∈ l, z < 256
theorem c4G {rate : Nat} {α : Type} (K : List Nat → Nat → α) : ∀ (l s : List Nat) (p : Nat), b1z l → c5I s →
  ∃ s' p', c5I s' ∧ d2G rate l s p K = K s' p' ∧ b0Y rate (cl s, p) (cl l) = (cl s', p')
 | [], s, p, _, hs => ⟨s, p, hs, rfl, rfl⟩
 | x :: l, s, p, hl, hs => by
  have hx : x < 256 := hl x (List.mem_cons_self ..)
  have hl' : b1z l := fun z hz => hl z (List.mem_cons_of_mem _ hz)
  have hp := c2o (p := p) hs hx
  have e1 : b0Y rate (cl s, p) (cl (x :: l)) = b0Y rate (c7C rate (cl s, p) (x : Int)) (cl l) := rfl
  unfold d2G
  rw [c1u, e1]
  unfold c7C
  dsimp only
  rw [c8G hs hx]
  by_cases hq : p + 1 = rate
  ·have hb : Nat.beq (Nat.succ p) rate = true := by rw [← hq]; exact Nat.beq_refl _
   rw [hb, if_pos hq, c49 hp]
   dsimp only
   rw [a9K]
   exact c4G K l _ 0 hl' (b8I hp)
  ·have hb : Nat.beq (Nat.succ p) rate = false := by
    cases h : Nat.beq (Nat.succ p) rate with
    | false => rfl
    | true => exact absurd (Nat.eq_of_beq_eq_true h) hq
   rw [hb, if_neg hq]
   dsimp only
   rw [a9K]
   exact c4G K l _ _ hl' hp
def zN : List Nat := List.replicate 25 0
theorem d78 : c5I zN := ⟨by decide, by unfold c5J; decide⟩
theorem e0v : z25 = cl zN := rfl
def d8l {α : Type} (rate e : Nat) (l : List Nat) (K : List Nat → α) : α :=
 d2G rate l zN 0 fun s p => c6u (a3O (d1M (d1M s p e) (Nat.sub rate 1) 128)) K
theorem c7N {rate e : Nat} (he : e < 256) {l : List Nat} (hl : b1z l) {α : Type} (K : List Nat → α) :
  ∃ s, c5I s ∧ d8l rate e l K = K s ∧ R0 rate (e : Int) (z25, 0) (cl l) = cl s := by
 obtain ⟨s', p', hs, h1, h2⟩ := c4G (rate := rate) (fun s p => c6u (a3O (d1M (d1M s p e) (Nat.sub rate 1) 128)) K) l zN 0 hl d78
 have ha := c2o (p := p') hs he
 have hb := c2o (p := rate - 1) ha (x := 128) (by decide)
 refine ⟨a3O (d1M (d1M s' p' e) (rate - 1) 128), b8I hb, ?_, ?_⟩
 ·unfold d8l
  rw [h1, a9K]
  rfl
 ·unfold R0
  rw [e0v, h2]
  dsimp only
  rw [c8G hs he, show (128 : Int) = ((128 : Nat) : Int) from rfl, c8G ha (by decide), c49 hb]
def a7Y (s : List Nat) (i : Nat) : Nat := Nat.mod (Nat.div (g0 s (Nat.div i 8)) (Nat.pow 2 (Nat.mul 8 (Nat.mod i 8)))) 256
theorem c59 (s : List Nat) (i : Nat) : c9z (cl s) i = (a7Y s i : Int) := by
 unfold c9z
 rw [b1w, a9N (by simp [IntKind.bits]; omega), b0x]
 exact (Int.natCast_emod _ _).symm
def one (b : Bool) : Nat := match b with
 | true => 1
 | false => 0
end Go.Ax.TryP
set_option linter.unusedVariables false
namespace Go.Ax.TryP
open Go.Proofs
def b9F (s : List Nat) : Nat → List Nat
 | 0 => s
 | k + 1 => a3O (b9F s k)
theorem d3g {s : List Nat} (h : c5I s) : ∀ k, c5I (b9F s k) ∧ b0o k (cl s) = cl (b9F s k)
 | 0 => ⟨h, rfl⟩
 | k + 1 => by
  obtain ⟨h1, h2⟩ := d3g h k
  refine ⟨b8I h1, ?_⟩
  show c3p (b0o k (cl s)) = _
  rw [h2, c49 h1]
  rfl
theorem d0e {rate : Nat} {s : List Nat} (h : c5I s) {k j : Nat} (hj : j < rate) : b29 rate (cl s) (k * rate + j) = (a7Y (b9F s k) j : Int) := by
 unfold b29
 rw [show (k * rate + j) / rate = k by rw [Nat.add_comm, Nat.add_mul_div_right _ _ (by omega), Nat.div_eq_of_lt hj, Nat.zero_add], show (k * rate + j) % rate = j by rw [Nat.add_comm, Nat.add_mul_mod_self_right, Nat.mod_eq_of_lt hj], (d3g h k).2]
 exact c59 _ _
def okC (s : List Nat) (t : Nat) : Nat := frc (a7Y s (Nat.mul 3 t)) fun a => frc (a7Y s (Nat.add (Nat.mul 3 t) 1)) fun b => frc (a7Y s (Nat.add (Nat.mul 3 t) 2)) fun c => one (Nat.ble (Nat.succ (Nat.add (Nat.add a (Nat.mul 256 b)) (Nat.mul 65536 (Nat.mod c 128)))) 8380417)
def cnD (s : List Nat) : Nat → Nat
 | 0 => 0
 | t + 1 => Nat.add (cnD s t) (okC s t)
def e0t (s : List Nat) : Nat → Nat
 | 0 => 0
 | k + 1 => e0t s k + cnD (b9F s k) 56
theorem d81 (n : Nat) (z : Int) (hz : z = (n : Int)) : (if z < 8380417 then [z] else []).length = one (Nat.ble (Nat.succ n) 8380417) := by
 subst hz
 by_cases h : n < 8380417
 ·rw [if_pos (by omega), show Nat.ble (Nat.succ n) 8380417 = true by rw [Nat.ble_eq]; omega]
  rfl
 ·rw [if_neg (by omega), show Nat.ble (Nat.succ n) 8380417 = false by rw [← Bool.not_eq_true, Nat.ble_eq]; omega]
  rfl
theorem d5S {l : List Int} {s : List Nat} (h : c5I s) (ha : R0 168 31 (z25, 0) l = cl s) (k : Nat) : ∀ t, t ≤ 56 → (a1w (b1Z l) (56 * k + t)).length = (a1w (b1Z l) (56 * k)).length + cnD (b9F s k) t
 | 0, _ => rfl
 | t + 1, ht => by
  have e : ∀ j, j < 168 → shk l (k * 168 + j) = (a7Y (b9F s k) j : Int) := fun j hj => by
   unfold shk
   rw [ha]
   exact d0e h hj
  show (a1w (b1Z l) (56 * k + t) ++ b1Z l (56 * k + t)).length = _
  rw [List.length_append, d5S h ha k t (by omega), Nat.add_assoc]
  show _ + (cnD (b9F s k) t + (b1Z l (56 * k + t)).length) = _ + (cnD (b9F s k) t + okC (b9F s k) t)
  refine congrArg (_ + ·) (congrArg (cnD (b9F s k) t + ·) ?_)
  unfold b1Z okC
  rw [c1u, c1u, c1u]
  refine d81 _ _ ?_
  unfold c2Y
  rw [show 3 * (56 * k + t) = k * 168 + 3 * t by omega, e _ (by omega), show k * 168 + 3 * t + 1 = k * 168 + (3 * t + 1) by omega, e _ (by omega), show k * 168 + 3 * t + 2 = k * 168 + (3 * t + 2) by omega, e _ (by omega)]
  show _ = ((a7Y (b9F s k) (3 * t) + 256 * a7Y (b9F s k) (3 * t + 1) + 65536 * (a7Y (b9F s k) (3 * t + 2) % 128) : Nat) : Int)
  omega
theorem d1S {l : List Int} {s : List Nat} (h : c5I s) (ha : R0 168 31 (z25, 0) l = cl s) : ∀ k, (a1w (b1Z l) (56 * k)).length = e0t s k
 | 0 => rfl
 | k + 1 => by
  rw [show 56 * (k + 1) = 56 * k + 56 by omega, d5S h ha k 56 (Nat.le_refl _), d1S h ha k]
  rfl
def e0n (l : List Nat) : Bool := d8l 168 31 l fun s0 => c6u (a3O s0) fun s1 => c6u (a3O s1) fun s2 => c6u (a3O s2) fun s3 => c6u (a3O s3) fun s4 =>
 Nat.ble 256 (Nat.add (Nat.add (Nat.add (Nat.add (cnD s0 56) (cnD s1 56)) (cnD s2 56)) (cnD s3 56)) (cnD s4 56))
theorem d7x {l : List Nat} (hl : b1z l) (h34 : l.length = 34) (h : e0n l = true) : (d3z (cl l)).2 = 0 := by
 obtain ⟨s, hs, h1, h2⟩ := c7N (rate := 168) (e := 31) (by decide) hl fun s0 => c6u (a3O s0) fun s1 => c6u (a3O s1) fun s2 => c6u (a3O s2) fun s3 => c6u (a3O s3) fun s4 =>
  Nat.ble 256 (Nat.add (Nat.add (Nat.add (Nat.add (cnD s0 56) (cnD s1 56)) (cnD s2 56)) (cnD s3 56)) (cnD s4 56))
 unfold e0n at h
 rw [h1, a9K, a9K, a9K, a9K] at h
 have e := d1S (l := cl l) hs h2 5
 have e5 : e0t s 5 = 0 + cnD s 56 + cnD (a3O s) 56 + cnD (a3O (a3O s)) 56 + cnD (a3O (a3O (a3O s))) 56 + cnD (a3O (a3O (a3O (a3O s)))) 56 := rfl
 have hge : 256 ≤ (a1w (b1Z (cl l)) (56 * 5)).length := by
  rw [e, e5, Nat.zero_add]
  exact Nat.le_of_ble_eq_true h
 have hf := (b1v (f := b1Z (cl l)) (t := 56 * 5) (u := 1024) (by decide) hge).1
 have hc : (cl l).length = 34 := by unfold cl; rw [List.length_map, h34]
 unfold d3z
 rw [if_neg (by rw [hc]; decide)]
 generalize a1w (b1Z (cl l)) 1024 = A at hf ⊢
 rw [if_neg (by omega)]
def e0l (s : List Nat) (q : Nat) : Nat := frc (a7Y s q) fun b => Nat.add (one (Nat.ble (Nat.succ (Nat.mod b 16)) 9)) (one (Nat.ble (Nat.succ (Nat.div b 16)) 9))
def cnB (s : List Nat) : Nat → Nat
 | 0 => 0
 | q + 1 => Nat.add (cnB s q) (e0l s q)
theorem d26 (n : Nat) (z : Int) (hz : z = (n : Int)) : (d6t 4 z).length = one (Nat.ble (Nat.succ n) 9) := by
 subst hz
 unfold d6t
 rw [if_neg (by decide)]
 by_cases h : n < 9
 ·rw [if_pos (by omega), show Nat.ble (Nat.succ n) 9 = true by rw [Nat.ble_eq]; omega]
  rfl
 ·rw [if_neg (by omega), show Nat.ble (Nat.succ n) 9 = false by rw [← Bool.not_eq_true, Nat.ble_eq]; omega]
  rfl
theorem c7O {l : List Int} {s : List Nat} (h : c5I s) (ha : R0 136 31 (z25, 0) l = cl s) (k : Nat) : ∀ q, q ≤ 136 → (a1w (a5W 4 l) (2 * (136 * k + q))).length = (a1w (a5W 4 l) (2 * (136 * k))).length + cnB (b9F s k) q
 | 0, _ => rfl
 | q + 1, hq => by
  have e : shb l (136 * k + q) = (a7Y (b9F s k) q : Int) := by
   unfold shb
   rw [ha, Nat.mul_comm 136 k]
   exact d0e h (by omega)
  show (a1w (a5W 4 l) (2 * (136 * k + q)) ++ a5W 4 l (2 * (136 * k + q)) ++ a5W 4 l (2 * (136 * k + q) + 1)).length = _
  rw [List.length_append, List.length_append, c7O h ha k q (by omega)]
  have g1 : (a5W 4 l (2 * (136 * k + q))).length = one (Nat.ble (Nat.succ (a7Y (b9F s k) q % 16)) 9) := by
   unfold a5W
   refine d26 _ _ ?_
   unfold a8Q
   rw [if_pos (by omega), show 2 * (136 * k + q) / 2 = 136 * k + q by omega, e]
   omega
  have g2 : (a5W 4 l (2 * (136 * k + q) + 1)).length = one (Nat.ble (Nat.succ (a7Y (b9F s k) q / 16)) 9) := by
   unfold a5W
   refine d26 _ _ ?_
   unfold a8Q
   rw [if_neg (by omega), show (2 * (136 * k + q) + 1) / 2 = 136 * k + q by omega, e]
   omega
  rw [g1, g2]
  show _ = _ + Nat.add (cnB (b9F s k) q) (e0l (b9F s k) q)
  unfold e0l
  rw [c1u]
  show _ = _ + (cnB (b9F s k) q + (one (Nat.ble (Nat.succ (a7Y (b9F s k) q % 16)) 9) + one (Nat.ble (Nat.succ (a7Y (b9F s k) q / 16)) 9)))
  omega
def e0m (l : List Nat) : Bool := d8l 136 31 l fun s0 => c6u (a3O s0) fun s1 => Nat.ble 256 (Nat.add (cnB s0 136) (cnB s1 136))
theorem d7w {l : List Nat} (hl : b1z l) (h66 : l.length = 66) (h : e0m l = true) : (c9x 4 (cl l)).2 = 0 := by
 obtain ⟨s, hs, h1, h2⟩ := c7N (rate := 136) (e := 31) (by decide) hl fun s0 => c6u (a3O s0) fun s1 => Nat.ble 256 (Nat.add (cnB s0 136) (cnB s1 136))
 unfold e0m at h
 rw [h1, a9K] at h
 have e0 := c7O (l := cl l) hs h2 0 136 (Nat.le_refl _)
 have e1 := c7O (l := cl l) hs h2 1 136 (Nat.le_refl _)
 have hge : 256 ≤ (a1w (a5W 4 (cl l)) 544).length := by
  have h3 : 256 ≤ cnB s 136 + cnB (a3O s) 136 := Nat.le_of_ble_eq_true h
  have z0 : (a1w (a5W 4 (cl l)) (2 * (136 * 0))).length = 0 := rfl
  have n0 : b9F s 0 = s := rfl
  have n1 : b9F s 1 = a3O s := rfl
  rw [n0, z0, show 2 * (136 * 0 + 136) = 272 from rfl] at e0
  rw [n1, show 2 * (136 * 1) = 272 from rfl, show 2 * (136 * 1 + 136) = 544 from rfl] at e1
  omega
 have hf := (b1v (f := a5W 4 (cl l)) (t := 544) (u := 2048) (by decide) hge).1
 have hc : (cl l).length = 66 := by unfold cl; rw [List.length_map, h66]
 unfold c9x
 rw [if_neg (by rw [hc]; decide)]
 generalize a1w (a5W 4 (cl l)) 2048 = A at hf ⊢
 rw [if_neg (by omega)]
end Go.Ax.TryP
set_option linter.unusedVariables false
namespace Go.Ax.TryP
open Go.Proofs
def d5r : List Nat := [66, 75, 47, 38, 126, 88, 213, 179, 180, 77, 113, 172, 252, 106, 101, 107, 178, 105, 80, 213, 124, 97, 219, 28, 136, 11, 207, 161, 254, 171, 68, 63]
def d4k : List Nat := [205, 13, 174, 225, 147, 130, 67, 20, 202, 248, 238, 64, 99, 127, 27, 223, 106, 36, 224, 25, 229, 154, 132, 244, 159, 253, 148, 138, 173, 25, 127, 136, 153, 255, 104, 180, 192, 45, 238, 35, 54, 223, 95, 154, 77, 30, 61, 145, 90, 253, 16, 69, 137, 117, 255, 1, 217, 219, 248, 188, 188, 117, 181, 225]
theorem d8m : (d8l 136 31 (List.replicate 32 0 ++ [6, 5]) fun s => decide ((List.range 128).map (a7Y s) = d5r ++ d4k ++ (List.range 32).map fun i => a7Y s (96 + i))) = true := by decide +kernel
theorem d3H : ([0, 1, 2, 3, 4, 5].all fun r => [0, 1, 2, 3, 4].all fun c => e0n (d5r ++ [c, r])) = true := by decide +kernel
theorem d3G : ([0, 1, 2, 3, 4, 5, 6, 7, 8, 9, 10].all fun i => e0m (d4k ++ [i, 0])) = true := by decide +kernel
end Go.Ax.TryP
set_option linter.unusedVariables false
namespace Go.Ax.TryP
open Go.Proofs
theorem d3s {rate n : Nat} {s : List Nat} (hn : n ≤ rate) (hr : 0 < rate) : (List.range n).map (b29 rate (cl s)) = cl ((List.range n).map (a7Y s)) := by
 unfold cl
 rw [List.map_map]
 refine List.map_congr_left fun i hi => ?_
 have h := List.mem_range.1 hi
 unfold b29
 rw [Nat.div_eq_of_lt (by omega), Nat.mod_eq_of_lt (by omega)]
 exact c59 s i
def a1e : List Int := List.replicate 32 0
theorem d4p : ∃ t : List Nat, a9x a1e = cl (d5r ++ d4k ++ t) := by
 have e : a1e ++ [6, 5] = cl (List.replicate 32 0 ++ [6, 5]) := rfl
 obtain ⟨s, hs, h1, h2⟩ := c7N (rate := 136) (e := 31) (by decide) (l := List.replicate 32 0 ++ [6, 5]) (by unfold b1z; decide) fun s => decide ((List.range 128).map (a7Y s) = d5r ++ d4k ++ (List.range 32).map fun i => a7Y s (96 + i))
 have h := d8m
 rw [h1] at h
 have h3 := of_decide_eq_true h
 refine ⟨(List.range 32).map fun i => a7Y s (96 + i), ?_⟩
 unfold a9x a3Q a0l
 rw [e, show (31 : Int) = ((31 : Nat) : Int) from rfl, h2, d3s (by decide) (by decide), h3]
theorem c9C (a b : List Nat) : cl (a ++ b) = cl a ++ cl b := by unfold cl; rw [List.map_append]
theorem d0j : a6h a1e = cl d5r ∧ J5 (a9x a1e) 32 64 = cl d4k := by
 obtain ⟨t, ht⟩ := d4p
 unfold a6h J5
 rw [ht, c9C, c9C]
 have h1 : (cl d5r).length = 32 := rfl
 have h2 : (cl d4k).length = 64 := rfl
 refine ⟨?_, ?_⟩
 ·rw [List.drop_zero, List.append_assoc, List.take_left' h1]
 ·rw [List.append_assoc, List.drop_left' h1, List.take_left' h2]
theorem c3I {a b : List Nat} (ha : b1z a) (hb : b1z b) : b1z (a ++ b) := fun z hz => (List.mem_append.1 hz).elim (ha z) (hb z)
theorem d3m : d88 a1e := by
 intro i hi
 have h0 := d3G
 rw [List.all_eq_true] at h0
 have h1 := h0 i (by simp; omega)
 have h2 := d7w (l := d4k ++ [i, 0]) (c3I (by unfold b1z; decide) (fun z hz => by simp at hz; omega)) rfl h1
 unfold a9y
 rw [d0j.2, show cl d4k ++ c7G (i : Int) = cl (d4k ++ [i, 0]) by
  rw [c9C]
  refine congrArg (cl d4k ++ ·) ?_
  show [(i : Int) % 256, (i : Int) / 256 % 256] = [(i : Int), ((0 : Nat) : Int)]
  rw [show (i : Int) % 256 = i by omega, show (i : Int) / 256 % 256 = ((0 : Nat) : Int) by omega]]
 exact h2
theorem d1g : a30 (a6h a1e) := by
 intro r hr c hc
 have h0 := d3H
 rw [List.all_eq_true] at h0
 have h1 := h0 r (by simp; omega)
 rw [List.all_eq_true] at h1
 have h2 := d7x (l := d5r ++ [c, r]) (c3I (by unfold b1z; decide) (fun z hz => by simp at hz; omega)) rfl (h1 c (by simp; omega))
 unfold c5H
 rw [d0j.1, show cl d5r ++ [(c : Int), (r : Int)] = cl (d5r ++ [c, r]) by rw [c9C]; rfl]
 exact h2
theorem d3L (xi : List Int) : (skD xi).length = 4032 ∧ bytes (skD xi) := by
 unfold skD
 refine ⟨by rw [List.length_append, c2L, d7X], K3 (K3 ?_ (a8y (fun i => b2E 4 _) 11)) (a8y (fun i => b2E 13 _) 6)⟩
 unfold skH
 exact K3 (K3 (a1b xi).2 (D5 (c9n xi) _ _)) (a7U _ _)
theorem d22 : d4g a1e = (pkD a1e, skD a1e, 0) := by
 unfold d4g
 exact a5u ⟨d3m, d1g⟩ _ _
theorem d79 : ¬ d7y (List.replicate 3309 0) := by
 intro h
 have h0 := h 0 (by omega)
 have h1 := c3T (c1L (a := zV (List.replicate 3309 0) 0) (m := 524091) (by omega) (by omega) (i := 0) (by omega))
 have hb : ∀ t, b3g (J5 (List.replicate 3309 0) (48 + 640 * 0) 640) t = 0 := fun t => by
  unfold b3g J5
  rw [List.drop_replicate, List.take_replicate, List.getD_eq_getElem?_getD, List.getElem?_replicate]
  split
  ·unfold c2W; rw [Option.getD_some]; simp
  ·unfold c2W; rw [Option.getD_none]; simp
 have e : (zV (List.replicate 3309 0) 0).getD 0 0 = 524288 := by
  unfold zV a0t
  rw [d6 (by omega)]
  simp only [hb]
  decide
 rw [e] at h1
 unfold a44 at h1
 omega
theorem d5N : d6u (pkD a1e) [] [] (List.replicate 3309 0) = 70 := by
 unfold d6u
 rw [if_neg (fun h => h (c6Z _).1), if_neg (by decide), if_neg (fun h => h (by rw [List.length_replicate])), a5u d79]
theorem d8g : ([] : List Int).length ≤ maxLen ∧ bytes [] := ⟨mB (by simp), fun z hz => by simp at hz⟩
theorem c7c : ∀ x r, a0J x = some r → ∃ N, a5n N x = some r := by
 refine i0 (ks := a6X) (rs := a6Y) fun x hw hq => ⟨0, ?_⟩
 have hp := c6Z a1e
 have hs := d3L a1e
 have e1 : a2S (List.replicate 32 0, ()) = some (d4g a1e) := c5X (xi := a1e) ⟨rfl, fun z hz => by rw [List.eq_of_mem_replicate hz]; omega⟩
 have hv : (List.replicate 3309 (0 : Int)).length ≤ maxLen ∧ bytes (List.replicate 3309 (0 : Int)) := ⟨mB (by rw [List.length_replicate]; omega), fun z hz => by rw [List.eq_of_mem_replicate hz]; omega⟩
 have e2 := c0S (pk := pkD a1e) (msg := []) (ctx := []) ⟨mB (by rw [hp.1]; omega), hp.2⟩ d8g d8g hv
 rw [d5N] at e2
 have e3 : a0H ([], [], [], [], ()) = some 161 := c0S d8g d8g d8g d8g
 rw [d22] at e1
 show a5n 0 x = some true
 unfold a5n
 generalize List.replicate 3309 (0 : Int) = sg at e2 ⊢
 generalize pkD a1e = pk at e1 e2 hp
 generalize skD a1e = sk at e1 hs
 rw [e1, Option.bind_some]
 dsimp only
 rw [if_pos rfl, if_pos (by rw [hp.1]; rfl), if_pos (by rw [hs.1]; rfl), if_pos (by decide), if_pos rfl, if_pos (by decide), e2, Option.bind_some, if_pos rfl, e3, Option.bind_some]
 rfl
theorem c8P : ∀ x r, a9L x = some r → ∃ N, a6W N x = some r := by
 refine i0 (ks := a2h) (rs := a8o) fun x hw hq => ⟨x.1.length + 1, ?_⟩
 obtain ⟨(l : List (List Int)), u⟩ := x
 have hl : l.length ≤ maxLen ∧ ∀ zs ∈ l, zs.length ≤ maxLen ∧ _ := hw.1
 have hm : maxLen ≤ 9223372036854775807 := by unfold maxLen; omega
 show a6W (l.length + 1) (l, u) = some (decide (∀ b ∈ l, b.length ≤ 6000))
 unfold a6W
 dsimp only
 generalize hN : l.length + 1 = N
 have h := fun K : _ → Option Bool => c1B (F := N6 N) (K := K) (fun i => (l, ((l.length : Nat) : Int), (i : Int), ())) (fun i => (l.getD i []).length ≤ 6000) (.inl (false, ())) (.inr ()) l.length
  (fun i hi kn => by
   constructor
   ·intro hc
    unfold N6
    dsimp only
    rw [if_pos (by omega), if_pos (by omega), if_pos (by omega), Int.toNat_natCast, if_neg (by omega), c7 (by omega) (by omega)]
    rfl
   ·intro hc
    unfold N6
    dsimp only
    rw [if_pos (by omega), if_pos (by omega), if_pos (by omega), Int.toNat_natCast, if_pos (by omega)])
  (fun kn => by
   unfold N6
   dsimp only
   rw [if_neg (by omega)]) l.length 0 N (by omega) (by omega)
 have hiff : (∀ k, 0 ≤ k → k < l.length → (l.getD k []).length ≤ 6000) ↔ ∀ b ∈ l, b.length ≤ 6000 := by
  constructor
  ·intro h b hb
   obtain ⟨i, hi, rfl⟩ := List.mem_iff_getElem.1 hb
   have := h i (Nat.zero_le _) hi
   rwa [List.getD_eq_getElem?_getD, List.getElem?_eq_getElem hi, Option.getD_some] at this
  ·intro h k _ hk
   rw [List.getD_eq_getElem?_getD, List.getElem?_eq_getElem hk, Option.getD_some]
   exact h _ (List.getElem_mem hk)
 by_cases hc : ∀ b ∈ l, b.length ≤ 6000
 ·rw [decide_eq_true hc]
  exact (h _).1 (hiff.2 hc)
 ·rw [decide_eq_false hc]
  exact (h _).2 (fun hh => hc (hiff.1 hh))
end Go.Ax.TryP
set_option linter.unusedVariables false
namespace Go.Ax.TryP
open Go.Proofs
noncomputable def b0E : List Int × List Int × List Int × List Int × Int × Unit → Option Bool := a0u (ks := [.xs (.int .u8) 32, .xs (.int .u8) 32, .sl (.int .u8), .sl (.int .u8), .int .u8]) (rs := [.bool]) (fun _ => True) fun _ => true
end Go.Ax.TryP
set_option linter.unusedVariables false
namespace Go.Ax.TryP
open Go.Proofs
noncomputable abbrev b1t : Sig := ⟨[], [.bool], a0J⟩
noncomputable abbrev b4m : Sig := ⟨[.sls b8], [.bool], a9L⟩
noncomputable abbrev b7v : Sig := ⟨[.fsl b8, .sl b8, .sl b8, .xs b8 32, .int .i64], [.sl b8, .int .i64], b2Y⟩
noncomputable def p_law16_DsaRight_E : AE := AE.of [(3, ty3), (4, ty4), (5, ty5), (22, ty22), (23, ty23), (35, ty35)] [(6, b1t), (7, b4m), (8, a4W), (9, b7v), (10, a4X)]
noncomputable def b6W : Hints := [(3000000, [10])]
noncomputable def b6X : Code := (Try.f3).body.getD .skip
abbrev V8 : List Kd := [.xs b8 32, .xs b8 32, .sl b8, .sl b8, .int .u8]
abbrev a6V : List Kd := [.bool]
noncomputable def Z4 (N : Nat) (x : List Int × List Int × List Int × List Int × Int × Unit) : Option (Bool) :=
 (a0J (())).bind fun r1 => (
 if (¬ (r1 = true)) then
  (a0J (())).bind fun r2 => (
  some (decide (r2 = true)))
 else
  (a9L ([x.2.2.1, x.2.2.2.1], ())).bind fun r3 => (
  if (¬ (r3 = true)) then
   (a0J (())).bind fun r4 => (
   some (decide (r4 = true)))
  else
   (a2S (x.1, ())).bind fun r5 => (
   if (r5.2.2 ≠ (0:Int)) then
    some (decide (r5.2.2 = (130:Int)))
   else
    (b2Y (r5.2.1, x.2.2.1, x.2.2.2.1, x.2.1, (IntKind.i64.wrap ((1:Int) + (Int.tmod (IntKind.i64.wrap x.2.2.2.2.1) (30:Int)))), ())).bind fun r6 => (
    if (r6.2 ≠ (0:Int)) then
     if ((((List.length r6.1) : Nat) : Int) = (0:Int)) then
      some (decide ((decide (r6.2 = (3:Int))) = (decide ((((List.length x.2.2.2.1) : Nat) : Int) > (255:Int)))))
     else
      some false
    else
     if ((((List.length r6.1) : Nat) : Int) = (3309:Int)) then
      (a0H (r5.1, x.2.2.1, x.2.2.2.1, r6.1, ())).bind fun r7 => (
      some (decide (r7 = (0:Int))))
     else
      some false))))
theorem b3W (e0 : c8 Try.prog 6 b1t) (e1 : c8 Try.prog 7 b4m) (e2 : c8 Try.prog 8 a4W) (e3 : c8 Try.prog 9 b7v) (e4 : c8 Try.prog 10 a4X) : p_law16_DsaRight_E.Ok Try.prog := AE.of_ok (all_cons a5T (all_cons c2R (all_cons Z8 (all_cons c5z (all_cons G0 (all_cons a2P c6)))))) (all_cons ⟨e0, b7M⟩ (all_cons ⟨e1, b9B⟩ (all_cons ⟨e2, a8I⟩ (all_cons ⟨e3, c1i⟩ (all_cons ⟨e4, a8J⟩ c6)))))
theorem b5n (hE : p_law16_DsaRight_E.Ok Try.prog) {g : Ds V8 → Option (Rs [.bool])} (hg : ∀ x r, g x = some r → ∃ N, Z4 N x = some r) : c8 Try.prog 3 ⟨V8, [.bool], g⟩ :=
 i6 (E := p_law16_DsaRight_E) (H := b6W) (L := fun N => LT.nil) (c := b6X) (ks := V8) (rs := a6V) (F := Z4) hE mix Try.func3 (by kernel_rfl) (fun N => OkAll.nil) (fun _ _ => by kernel_rfl) hg
end Go.Ax.TryP
set_option linter.unusedVariables false
namespace Go.Ax.TryP
open Go.Proofs
theorem d1V (l : List Int) : ∀ n, bytes (X6 l n)
 | 0 => fun z hz => by simp [X6, b2S] at hz
 | n + 1 => by
  show bytes (X6 l n ++ c5K l n)
  exact K3 (d1V l n) fun z hz => by have := (d3D l n).2 z hz; omega
theorem d7F (c w e l : List Int) : bytes (b8H (hrow c w e l) 55).1 := by
 have h6 : (hrow c w e l).length / 256 = 6 := by rw [c0B c w e l]
 unfold b8H
 rw [h6]
 split
 ·exact fun z hz => by simp at hz
 ·split
  ·exact fun z hz => by simp at hz
  ·rename_i h1 h2
   refine K3 (K3 (d1V _ _) fun z hz => by rw [List.eq_of_mem_replicate hz]; omega) fun z hz => ?_
   obtain ⟨k, hk, rfl⟩ := List.mem_map.1 hz
   have hk := List.mem_range.1 hk
   have hle : (X6 (hrow c w e l) (k + 1)).length ≤ (X6 (hrow c w e l) 6).length := c0K _ (by omega)
   unfold c7J
   omega
theorem e07 {ct : List Int} (h : bytes ct) (c s y : List Int) (n : Nat) : bytes (zT ct c s y n) := K3 h (a8y (fun i => b2E 20 _) n)
theorem d9s {ct : List Int} (h : bytes ct) (c s e l y w : List Int) : bytes (c80 ct c s e l y w) := K3 (e07 h c s y 5) (d7F c w e l)
theorem d5y {ct c s e l y w : List Int} (h : ct.length = 48) (ho : b7U c s e l y w) : (c80 ct c s e l y w).length = 3309 := by
 unfold c80
 rw [List.length_append, d4c h, (c48 ho.2.2).2]
theorem c7n (t : Nat → Bool × Int × (List Int × Bool)) : ∀ n k, ((d5w t k n).1 = [] ∧ ((d5w t k n).2 = 162 ∨ ∃ j, j < k + n ∧ (t j).1 = true ∧ (d5w t k n).2 = (t j).2.1)) ∨ ∃ j, j < k + n ∧ (t j).1 = false ∧ (t j).2.2.2 = true ∧ d5w t k n = ((t j).2.2.1, 0)
 | 0, k => .inl ⟨rfl, .inl rfl⟩
 | n + 1, k => by
  unfold d5w
  by_cases h : (t k).1 = true
  ·rw [if_pos h]
   exact .inl ⟨rfl, .inr ⟨k, by omega, h, rfl⟩⟩
  ·rw [if_neg h]
   by_cases h2 : (t k).2.2.2 = true
   ·rw [if_pos h2]
    exact .inr ⟨k, by omega, by simpa using h, h2, rfl⟩
   ·rw [if_neg h2]
    have ih := c7n t n (k + 1)
    rw [show k + 1 + n = k + (n + 1) by omega] at ih
    exact ih
def yK (sk msg ctx rnd : List Int) (k : Nat) : List Int := J4 (yD (d4j sk rnd (muS sk msg ctx)) k) 5
def wK (sk msg ctx rnd : List Int) (k : Nat) : List Int := R3 (a67 (J5 sk 0 32)) (yK sk msg ctx rnd k)
def ctK (sk msg ctx rnd : List Int) (k : Nat) : List Int := b9y (muS sk msg ctx) (hiD (wK sk msg ctx rnd k))
theorem d51 : ∃ f : List Int → List Int, ∀ ct, f ct = (a4b 49 ct).1 := ⟨fun ct => (a4b 49 ct).1, fun ct => Eq.refl _⟩
noncomputable def blF : List Int → List Int := Classical.choose d51
theorem d2d (ct : List Int) : blF ct = (a4b 49 ct).1 := Classical.choose_spec d51 ct
theorem d50 : ∃ f : List Int → Int, ∀ ct, f ct = (a4b 49 ct).2 := ⟨fun ct => (a4b 49 ct).2, fun ct => Eq.refl _⟩
noncomputable def blE : List Int → Int := Classical.choose d50
theorem d2c (ct : List Int) : blE ct = (a4b 49 ct).2 := Classical.choose_spec d50 ct
theorem d92 (ct : List Int) : blE ct = 0 ∨ blE ct = 130 := by rw [d2c]; exact d6O ct
noncomputable def cK (sk msg ctx rnd : List Int) (k : Nat) : List Int := blF (ctK sk msg ctx rnd k)
def sE (sk : List Int) : List Int := J4 (skP sk) 5
def eE (sk : List Int) : List Int := J4 (fun i => skP sk (5 + i)) 6
def lE (sk : List Int) : List Int := J4 (skL sk) 6
def okK (sk msg ctx rnd : List Int) (k : Nat) : Prop := b7U (cK sk msg ctx rnd k) (sE sk) (eE sk) (lE sk) (yK sk msg ctx rnd k) (wK sk msg ctx rnd k)
noncomputable def c7K (sk msg ctx rnd : List Int) (k : Nat) : List Int := c80 (ctK sk msg ctx rnd k) (cK sk msg ctx rnd k) (sE sk) (eE sk) (lE sk) (yK sk msg ctx rnd k) (wK sk msg ctx rnd k)
theorem d7Y {a1 a2 a3 s e l : List Int} {u : Unit} (ct : List Int) (b : List Int × Int) (y w : List Int) : d9X (a1, a2, a3, s, e, l, u) ct b y w = (decide (b.2 ≠ 0), b.2, cif (b7U b.1 s e l y w) (c80 ct b.1 s e l y w, true) ([], false)) := rfl
theorem d31 (sk msg ctx rnd : List Int) (k : Nat) : d9C sk msg ctx rnd k = (decide (blE (ctK sk msg ctx rnd k) ≠ 0), blE (ctK sk msg ctx rnd k), cif (okK sk msg ctx rnd k) (c7K sk msg ctx rnd k, true) ([], false)) := by
 have e2 : wD (a67 (J5 sk 0 32)) (d4j sk rnd (muS sk msg ctx)) k = wK sk msg ctx rnd k := by
  unfold wD wK yK
  exact Eq.refl _
 have e1 : ctD (a67 (J5 sk 0 32)) (muS sk msg ctx) (d4j sk rnd (muS sk msg ctx)) k = ctK sk msg ctx rnd k := by
  unfold ctD ctK
  rw [e2]
 have e3 : J4 (yD (d4j sk rnd (muS sk msg ctx)) k) 5 = yK sk msg ctx rnd k := by
  unfold yK
  exact Eq.refl _
 unfold d9C
 rw [d32, e1, e2, e3]
 have e4 : d1N sk = (J5 sk 0 32, J5 sk 32 32, J5 sk 64 64, sE sk, eE sk, lE sk, ()) := by
  unfold d1N sE eE lE
  exact Eq.refl _
 have e5 : okK sk msg ctx rnd k = b7U (cK sk msg ctx rnd k) (sE sk) (eE sk) (lE sk) (yK sk msg ctx rnd k) (wK sk msg ctx rnd k) := by unfold okK; exact Eq.refl _
 have e6 : c7K sk msg ctx rnd k = c80 (ctK sk msg ctx rnd k) (cK sk msg ctx rnd k) (sE sk) (eE sk) (lE sk) (yK sk msg ctx rnd k) (wK sk msg ctx rnd k) := by unfold c7K; exact Eq.refl _
 have e7 : cK sk msg ctx rnd k = (a4b 49 (ctK sk msg ctx rnd k)).1 := d2d _
 rw [e4, e5, e6, e7, d2c]
 generalize a4b 49 (ctK sk msg ctx rnd k) = b
 generalize wK sk msg ctx rnd k = w
 generalize yK sk msg ctx rnd k = y
 generalize ctK sk msg ctx rnd k = ct
 generalize sE sk = s
 generalize eE sk = e
 generalize lE sk = l
 exact d7Y ..
theorem d3K (sk msg ctx rnd : List Int) (most : Int) : ((c3D sk msg ctx rnd most).1 = [] ∧ (c3D sk msg ctx rnd most).2 ≠ 0 ∧ (d3o sk → ((c3D sk msg ctx rnd most).2 = 3 ↔ 255 < ctx.length))) ∨
  ∃ j, d3o sk ∧ ctx.length ≤ 255 ∧ a30 (J5 sk 0 32) ∧ blE (ctK sk msg ctx rnd j) = 0 ∧ okK sk msg ctx rnd j ∧ c3D sk msg ctx rnd most = (c7K sk msg ctx rnd j, 0) := by
 unfold c3D
 by_cases h1 : d3o sk
 ·rw [a1D (fun h => h h1)]
  by_cases h2 : 255 < ctx.length
  ·rw [if_pos h2]
   exact .inl ⟨rfl, by decide, fun _ => ⟨fun _ => h2, fun _ => rfl⟩⟩
  ·rw [if_neg h2]
   by_cases h3 : most < 1
   ·rw [if_pos h3]
    exact .inl ⟨rfl, by decide, fun _ => ⟨fun h => absurd h (by decide), fun h => absurd h h2⟩⟩
   ·rw [if_neg h3]
    by_cases h4 : a30 (J5 sk 0 32)
    ·rw [a1D (fun h => h h4)]
     rcases c7n (d9C sk msg ctx rnd) most.toNat 0 with ⟨e1, e2⟩ | ⟨j, _, e1, e2, e3⟩
     ·refine .inl ⟨e1, ?_⟩
      rcases e2 with e2 | ⟨j, _, g1, g2⟩
      ·rw [e2]
       exact ⟨by decide, fun _ => ⟨fun h => absurd h (by decide), fun h => absurd h h2⟩⟩
      ·rw [d31] at g1 g2
       have g1 := of_decide_eq_true g1
       have g3 := (d92 (ctK sk msg ctx rnd j)).resolve_left g1
       dsimp only at g2
       rw [g2, g3]
       exact ⟨by decide, fun _ => ⟨fun h => absurd h (by decide), fun h => absurd h h2⟩⟩
     ·rw [d31] at e1 e2 e3
      dsimp only at e1 e2 e3
      by_cases h5 : okK sk msg ctx rnd j
      ·rw [a5u h5] at e3
       refine .inr ⟨j, h1, by omega, h4, ?_, h5, e3⟩
       have := of_decide_eq_false e1
       exact Classical.not_not.1 this
      ·rw [a1D h5] at e2
       cases e2
    ·rw [a5u h4]
     exact .inl ⟨rfl, by decide, fun _ => ⟨fun h => absurd h (by decide), fun h => absurd h h2⟩⟩
 ·rw [a5u h1]
  exact .inl ⟨rfl, by decide, fun h => absurd h h1⟩
theorem c9G (sk msg ctx rnd : List Int) (k : Nat) : (ctK sk msg ctx rnd k).length = 48 ∧ bytes (ctK sk msg ctx rnd k) := ⟨c0Z _ _, c70 _ _⟩
theorem d6o {sk msg ctx rnd : List Int} {k : Nat} (h : okK sk msg ctx rnd k) : (c7K sk msg ctx rnd k).length = 3309 ∧ bytes (c7K sk msg ctx rnd k) := ⟨d5y (c9G _ _ _ _ _).1 h, d9s (c9G _ _ _ _ _).2 _ _ _ _ _ _⟩
end Go.Ax.TryP
set_option linter.unusedVariables false
namespace Go.Ax.TryP
open Go.Proofs
theorem d6J : a0J () = some true := d9 (ks := a6X) (rs := a6Y) (x := ()) trivial trivial
theorem d8q {l : List (List Int)} (hl : c7m l) : a9L (l, ()) = some (decide (∀ b ∈ l, b.length ≤ 6000)) :=
 d9 (ks := a2h) (rs := a8o) (x := (l, ())) ⟨d38.2 hl, trivial⟩ trivial
theorem d07 (xi : List Int) : (d88 xi ∧ a30 (a6h xi)) ∧ d4g xi = (pkD xi, skD xi, 0) ∨ d4g xi = ([], [], 130) := by
 unfold d4g
 by_cases h : d88 xi ∧ a30 (a6h xi)
 ·rw [a5u h]; exact .inl ⟨h, rfl⟩
 ·rw [a1D h]; exact .inr rfl
end Go.Ax.TryP
namespace Go.Ax.TryP
open Go.Proofs
theorem b9q : c8 Try.prog 62 a4Y := c2h (c0b) c7b
theorem b5A : c8 Try.prog 75 a2B := b1o (b0l) b5t
theorem c0t : c8 Try.prog 76 a5t := b5l (b3U) c0l
theorem b7i : c8 Try.prog 77 a3e := b2x (b1n) b7b
theorem b5v : c8 Try.prog 79 a2w := b00 (a9U) b5p
theorem c3C : c8 Try.prog 78 a7W := b8B (b6R b5v) c3x
theorem b0T : c8 Try.prog 74 X4 := b5a (b3H c0t b7i c3C) c0k
theorem b2R : c8 Try.prog 73 a0z := a9k (a8n b5A b0T) b2G
theorem b0U : c8 Try.prog 70 X5 := b5m (b3V b2R) c0m
theorem a9q : c8 Try.prog 63 R9 := b3I (b2t b0U) b8L
theorem b8U : c8 Try.prog 71 a4a := b3L (b2w) b8O
theorem b2Q : c8 Try.prog 72 a0y := a9j (a8m b0T) b2F
theorem a9r : c8 Try.prog 64 S0 := b3K (b2v b8U b9q b2Q) b8N
theorem b8T : c8 Try.prog 65 a39 := b3J (b2u b0U) b8M
theorem a4Q : c8 Try.prog 42 E3 := b8A (b6Q b9q a9q a9r b8T) c3w
theorem a9p : c8 Try.prog 13 R8 := c40 (c3f a4Q) d1l
theorem c7s : c8 Try.prog 17 b1s := c6T (c47) d3v
theorem a7T : c8 Try.prog 16 N8 := c2k (c0e) c7d
theorem c7r : c8 Try.prog 44 b1r := c14 (b9W) c65
theorem J3 : c8 Try.prog 45 i8 := b9V (b8k) c5d
theorem b7h : c8 Try.prog 15 a3d := b2g (b09 a4Q c7r J3) b68
theorem c0r : c8 Try.prog 66 a5r := b4K (b3r J3) c0i
theorem a6b : c8 Try.prog 57 J0 := a4r (a3T c0r) a6a
theorem a4P : c8 Try.prog 47 E2 := b8f (b6s a6b) c3s
theorem a3P : c8 Try.prog 60 A5 := b90 (b8q J3) c5f
theorem c2D : c8 Try.prog 69 a6j := b6c (b4C) c2q
theorem b4g : c8 Try.prog 59 a1L := b8p (b6B a3P c2D) c3v
theorem b5x : c8 Try.prog 32 a2y := c28 (c1Z a4P b4g a3P J3) c8L
theorem a8u : c8 Try.prog 38 Q2 := b77 (b6j a3P) c3r
theorem b0u : c8 Try.prog 21 U4 := c23 (c1R J3) c8I
theorem a65 : c8 Try.prog 34 K0 := b1e (b0c b5x a8u b0u) b5s
theorem c5k : c8 Try.prog 61 a9z := b9K (b71 a3P) c5c
theorem a8v : c8 Try.prog 57 Q3 := a55 (a5G c5k) a8r
theorem b5w : c8 Try.prog 36 a2x := c24 (c1V a4P b4g J3 a3P a8v) c8J
theorem a7S : c8 Try.prog 19 N7 := b2n (b1f a65 b5w) b7a
theorem b9m : c8 Try.prog 48 a4U := c15 (b9X) c66
theorem b5y : c8 Try.prog 20 a2z := b08 (a96 a4P b9m) b5q
theorem b9n : c8 Try.prog 49 a4V := c16 (b9Y) c67
theorem b9l : c8 Try.prog 23 a4T := c10 (b9R a4P b9n) c64
theorem c2G : c8 Try.prog 67 a6m := b6x (b4P J3) c2s
theorem a64 : c8 Try.prog 57 J9 := a5g (a4s c2G) a61
theorem b4e : c8 Try.prog 50 a1J := b70 (b6g a64) c3q
theorem b0S : c8 Try.prog 24 X3 := b4J (b3p b4e b9n) c0h
theorem c3B : c8 Try.prog 46 a7V := b8g (b6t a9q a9r) c3t
theorem d1t : XOk Try.prog 14 b7w := c43 (c3h) d1m
theorem b2P : XOk Try.prog 18 a0x := c2d (b94 a7T c3B d1t) c7a
theorem b9o : c8 Try.prog 8 a4W := c2b (b91 a9p c7s a7T b7h a7S b0u b5y b9l b0S b2P) c68
theorem c2H : c8 Try.prog 26 a6n := c3g (c2e a9p) c8N
theorem b4f : c8 Try.prog 35 a1K := b8j (b6v) c3u
theorem b30 : c8 Try.prog 58 a1C := b0a (a85) b3X
theorem a3W : c8 Try.prog 57 B7 := a2L (a1Z b30) a3V
theorem a0s : c8 Try.prog 29 o6 := b2h (b1c b4f a3W) b69
theorem b2N : c8 Try.prog 30 a0v := c1Y (b9O b4e) c63
theorem b5z : c8 Try.prog 31 a2A := b1d (b0b) b5r
theorem b9k : c8 Try.prog 33 a4S := c1S (b9H a4Q) c61
theorem c2E : c8 Try.prog 37 a6k := c29 (c11 J3) c8M
theorem c5l : c8 Try.prog 68 a9A := b9Z (b8o J3 b9m) c5e
theorem a4y : c8 Try.prog 53 D4 := b3l (b2c c5l) b8J
theorem c2F : c8 Try.prog 39 a6l := b6w (b4O a4y) c2r
theorem b2O : c8 Try.prog 41 a0w := b6L (b48 a7T b9l a9p) c2t
theorem c7u : c8 Try.prog 40 b1u := c2l (c0f) c7e
theorem b9p : c8 Try.prog 10 a4X := c2c (b93 a9p c2H a0s b2N b5z b9k b5x a65 b4f a8u c2E b5w c2F b2O c7u b2P) c69
theorem c7t : c8 Try.prog 6 b1t := c2j (c0d b9o b9p) c7c
theorem c8X : c8 Try.prog 7 b4m := c3m (c2i) c8P
theorem c8W : XOk Try.prog 51 b4l := c3j (c2g a0s b2N) c8O
theorem d1u : XOk Try.prog 25 b7x := c44 (c3i a0s c8W) d1n
theorem c7q : c8 Try.prog 52 b1q := c1W (b9N a4Q a0s) c62
theorem c8V : c8 Try.prog 54 b4k := c27 (c1X b5x a8u b5w) c8K
theorem c0q : c8 Try.prog 55 a5q := b4H (b3m a4y b0u) c0g
theorem b8S : c8 Try.prog 56 a38 := b3q (b2f) b8K
theorem c0s : XOk Try.prog 27 a5s := b49 (b3G c7s a7T c7q a7S a4y b2O b9k c8V b0u b2N b0S c2E c0q b8S) c0j
theorem d1s : c8 Try.prog 9 b7v := c4Z (c3e c2H a9p d1u b2P c0s) d1k
end Go.Ax.TryP
