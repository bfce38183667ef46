/- A part of the proof: DgQ9, DgQ10, DgK, DgK2, DgK3, DgK4, DgQ11, DgS2, DgP2, DgQ12, DgQ13, DgW1. -/
import Derived.Test.YtbcjbgjidddnaaaDsaE
set_option linter.unusedVariables false
namespace Go.Ax.TryP
open Go.Proofs
theorem d5x {b : List Int} (hb : b.length ≤ maxLen ∧ bytes b) : G0 (4, b, ()) = some (c8C 4 b) :=
 d8 (ks := E7) (rs := E8) (x := (4, b, ())) ⟨d0V (d := 4) (by omega), M8.2 hb, trivial⟩ trivial
def smN (z : Int) : Prop := (0 ≤ z ∧ z < 8380417) ∧ -4 ≤ c2m z ∧ c2m z ≤ 4
theorem d4t : smN 0 := ⟨by omega, by unfold c2m; omega⟩
theorem d5L (s : List Int) (t : Nat) : ∀ z ∈ a5A 4 s t, smN z := by
 intro z hz
 unfold a5A d5m at hz
 rw [if_neg (by decide)] at hz
 split at hz
 ·rename_i h
  rw [List.mem_singleton] at hz
  have := d1X s t
  subst hz
  refine ⟨by omega, ?_⟩
  unfold c2m
  split <;> omega
 ·simp at hz
theorem c3L (s : List Int) : (c8C 4 s).1.length = 256 ∧ ∀ z ∈ (c8C 4 s).1, smN z := by
 have hz : z256.length = 256 ∧ ∀ z ∈ z256, smN z := ⟨c4W.1, fun z hz => by rw [List.eq_of_mem_replicate hz]; exact d4t⟩
 unfold c8C
 split
 ·exact hz
 ·split
  ·exact hz
  ·rename_i h
   have ha := c6X (d5L s) 2048
   generalize a1j (a5A 4 s) 2048 = A at h ha
   refine ⟨?_, fun z hz => ha z (List.mem_of_mem_take hz)⟩
   show (A.take 256).length = 256
   rw [List.length_take, Nat.min_eq_left (by omega)]
theorem d7o (s : List Int) : E5 256 (c8C 4 s).1 := ⟨(c3L s).1, fun z hz => by have := ((c3L s).2 z hz).1; omega⟩
theorem d7n {s : List Int} (h : s.length = 66) : (c8C 4 s).2 = 0 ∨ (c8C 4 s).2 = 130 := by
 unfold c8C
 rw [if_neg (by rw [h]; decide)]
 split
 ·exact .inr rfl
 ·exact .inl rfl
theorem d6M {a : List Int} (hl : a.length = 256) (h : ∀ z ∈ a, smN z) : a1r a ≤ 4 := (c9f (by omega)).2 fun i hi => by
 have := (h _ (a5D (a := a) (i := i) (by omega))).2
 unfold d1Z
 split <;> omega
theorem d4W (s : List Int) : inW 4 (a30 4 (c8C 4 s).1) := c5N (m := 4) (by omega) (d6M (c3L s).1 (c3L s).2) (by omega) (by decide)
theorem b98 (xi : List Int) : (b00 xi).length = 128 := a1i _ _
theorem c8r (xi : List Int) : bytes (b00 xi) := a7x _ _
theorem b8z (xi : List Int) (i : Nat) : E5 256 (b2s xi i).1 := d7o _
theorem d8i (xi : List Int) : (T6 (b00 xi) 32 64).length = 64 ∧ bytes (T6 (b00 xi) 32 64) := ⟨Q8 (by rw [b98]; omega), D3 (c8r xi) _ _⟩
theorem d4V (xi : List Int) (i : Nat) : (b2s xi i).2 = 0 ∨ (b2s xi i).2 = 130 := d7n (by rw [List.length_append, (d8i xi).1]; rfl)
theorem d1a (xi : List Int) (i : Nat) : m6 ([List.take 64 (List.drop 32 (b00 xi)), c9E (i : Int)], ()) = some (T6 (b00 xi) 32 64 ++ c9E (i : Int)) ∧ G0 ((4 : Int), T6 (b00 xi) 32 64 ++ c9E (i : Int), ()) = some (b2s xi i) :=
 ⟨c8x (a := T6 (b00 xi) 32 64) ⟨by rw [(d8i xi).1]; omega, (d8i xi).2⟩ ⟨by rw [c4O]; omega, c9F _⟩, d5x ⟨mB (by rw [List.length_append, (d8i xi).1, c4O]; omega), J7 (d8i xi).2 (c9F _)⟩⟩
theorem d9q {xi Z X : List Int} (hZ : Z.length = 5 * 256) {n1 n2 n3 n4 n5 : Nat} {β : Type} (K : _ → Option β) :
  ((∀ i, i < 5 → (b2s xi i).2 = 0) → m7 (x4 10) 10 (n1, n2, n3, n4, (0 : Int), [0], n5, b00 xi, Z, X, ()) K = K (.inr (n1, n2, n3, n4, [0], n5, b00 xi, sK xi, X, ()))) ∧
  (¬ (∀ i, i < 5 → (b2s xi i).2 = 0) → m7 (x4 10) 10 (n1, n2, n3, n4, (0 : Int), [0], n5, b00 xi, Z, X, ()) K = K (.inl (130, [0], ()))) := by
 have h := c03 (F := x4 10) (K := K) (fun i => (n1, n2, n3, n4, (i : Int), [0], n5, b00 xi, a1g (fun i => (b2s xi i).1) Z i, X, ())) (fun i => (b2s xi i).2 = 0) (.inl (130, [0], ())) (.inr (n1, n2, n3, n4, [0], n5, b00 xi, sK xi, X, ())) 5
  (fun i hi kn => by
   obtain ⟨e1, e2⟩ := d1a xi i
   have hs := P7 (f := fun i => (b2s xi i).1) hZ (fun j _ => (b8z xi j).1) hi
   constructor
   ·intro hc
    unfold x4
    dsimp only
    rw [if_pos (by omega), c5l (by omega), Option.bind_some, e1, Option.bind_some, e2, Option.bind_some, if_neg (fun h => h hc), if_pos (by omega), if_pos (by omega), if_pos (by omega), Int.toNat_natCast, hs, c7 (by omega) (by omega)]
    rfl
   ·intro hc
    unfold x4
    dsimp only
    rw [if_pos (by omega), c5l (by omega), Option.bind_some, e1, Option.bind_some, e2, Option.bind_some, if_pos hc, (d4V xi i).resolve_left hc])
  (fun kn => by
   unfold x4
   dsimp only
   rw [if_neg (by omega), P6 hZ]
   rfl) 5 0 10 (by omega) (by omega)
 rw [D9] at h
 exact ⟨fun hh => h.1 fun r _ hr6 => hh r hr6, fun hh => h.2 fun hh' => hh fun r hr6 => hh' r (Nat.zero_le _) hr6⟩
theorem d9p {xi Z S : List Int} (hZ : Z.length = 6 * 256) {n1 n2 n3 n4 n5 : Nat} {β : Type} (K : _ → Option β) :
  ((∀ i, i < 6 → (b2s xi (5 + i)).2 = 0) → m7 (u6 10) 10 (n1, n2, n3, n4, (0 : Int), [0], n5, b00 xi, S, Z, ()) K = K (.inr (n1, n3, n4, [0], n5, b00 xi, S, eK xi, ()))) ∧
  (¬ (∀ i, i < 6 → (b2s xi (5 + i)).2 = 0) → m7 (u6 10) 10 (n1, n2, n3, n4, (0 : Int), [0], n5, b00 xi, S, Z, ()) K = K (.inl (130, [0], ()))) := by
 have h := c03 (F := u6 10) (K := K) (fun i => (n1, n2, n3, n4, (i : Int), [0], n5, b00 xi, S, a1g (fun i => (b2s xi (5 + i)).1) Z i, ())) (fun i => (b2s xi (5 + i)).2 = 0) (.inl (130, [0], ())) (.inr (n1, n3, n4, [0], n5, b00 xi, S, eK xi, ())) 6
  (fun i hi kn => by
   obtain ⟨e1, e2⟩ := d1a xi (5 + i)
   have hs := P7 (f := fun i => (b2s xi (5 + i)).1) hZ (fun j _ => (b8z xi _).1) hi
   constructor
   ·intro hc
    unfold u6
    dsimp only
    rw [if_pos (by omega), c7 (x := (5 : Int) + (i : Int)) (by omega) (by omega), show (5 : Int) + (i : Int) = ((5 + i : Nat) : Int) by omega, c5l (by omega), Option.bind_some, e1, Option.bind_some, e2, Option.bind_some, if_neg (fun h => h hc), if_pos (by omega), if_pos (by omega), if_pos (by omega), Int.toNat_natCast, hs, c7 (by omega) (by omega)]
    rfl
   ·intro hc
    unfold u6
    dsimp only
    rw [if_pos (by omega), c7 (x := (5 : Int) + (i : Int)) (by omega) (by omega), show (5 : Int) + (i : Int) = ((5 + i : Nat) : Int) by omega, c5l (by omega), Option.bind_some, e1, Option.bind_some, e2, Option.bind_some, if_pos hc, (d4V xi _).resolve_left hc])
  (fun kn => by
   unfold u6
   dsimp only
   rw [if_neg (by omega), P6 hZ]
   rfl) 6 0 10 (by omega) (by omega)
 rw [D9] at h
 exact ⟨fun hh => h.1 fun r _ hr6 => hh r hr6, fun hh => h.2 fun hh' => hh fun r hr6 => hh' r (Nat.zero_le _) hr6⟩
theorem d70 {a : List Int} {i : Nat} (hi : i < 256) : (c31 a).1.getD i 0 = fPh (a.getD i 0) ∧ (c31 a).2.getD i 0 = fPl (a.getD i 0) := by
 unfold c31
 dsimp only
 exact ⟨i9 hi, i9 hi⟩
theorem d71 (a : List Int) : E5 256 (c31 a).1 ∧ E5 256 (c31 a).2 := ⟨rows.range fun i _ => by have := d7B (a.getD i 0); omega, rows.range fun i _ => by have := d7C (a.getD i 0); omega⟩
theorem d83 (a : List Int) : inW 10 (B8 (c31 a).1) := by
 intro i hi
 rw [b2w hi, (d70 hi).1]
 have := d7B (a.getD i 0)
 have h4 : (2 : Int) ^ 10 = 1024 := by decide
 omega
theorem d87 (a : List Int) : inW 13 (a30 4096 (c31 a).2) := by
 intro i hi
 have e : (a30 4096 (c31 a).2).getD i 0 = 4096 - (b35 (c31 a).2).getD i 0 := i9 hi
 rw [e, b2v hi, (d70 hi).2]
 have := d7C (a.getD i 0)
 have h4 : (2 : Int) ^ 13 = 8192 := by decide
 unfold c2m
 split <;> omega
theorem a6H (xi : List Int) : (c2i xi).length = 32 ∧ bytes (c2i xi) := ⟨Q8 (by rw [b98]; omega), D3 (c8r xi) _ _⟩
theorem d6x (xi : List Int) (n : Nat) : (pkT xi n).length = 32 + n * 320 := by
 unfold pkT
 rw [List.length_append, (a6H xi).1, a0i (w := 320) fun i _ => a6F 10 _]
theorem d6R (xi : List Int) (n : Nat) : (tlT xi n).length = n * 416 := by
 unfold tlT
 rw [a0i (w := 416) fun i _ => a6F 13 _]
theorem d9M (xi : List Int) (r : Nat) : E5 256 (tK xi r) := b1m _ _
theorem d9L (xi : List Int) : E5 (5 * 256) (sK xi) := a4f (f := fun i => (b2s xi i).1) (fun i => b8z xi i) 5
theorem d9F (xi : List Int) : E5 (6 * 256) (eK xi) := a4f (f := fun i => (b2s xi (5 + i)).1) (fun i => b8z xi _) 6
theorem d9I {xi : List Int} {n1 n2 n3 n4 : Nat} {S : List Int} {β : Type} (K : _ → Option β) :
  m7 (G3 10) 10 (32, n1, n2, n3, 0, (0 : Int), [0], 32, c2i xi, n4, b00 xi, S, eK xi, b0t (c08 (c2i xi)) (sK xi), 0, [], ()) K = K (.inr (32 + 6 * 320, n1, n2, n3, 0 + 6 * 416, [0], 32 + 6 * 320, pkT xi 6, n4, b00 xi, S, eK xi, 0 + 6 * 416, tlT xi 6, ())) := by
 refine i8 (F := G3 10) (s := fun i => (32 + i * 320, n1, n2, n3, 0 + i * 416, (i : Int), [0], 32 + i * 320, pkT xi i, n4, b00 xi, S, eK xi, b0t (c08 (c2i xi)) (sK xi), 0 + i * 416, tlT xi i, ())) (y := .inr (32 + 6 * 320, n1, n2, n3, 0 + 6 * 416, [0], 32 + 6 * 320, pkT xi 6, n4, b00 xi, S, eK xi, 0 + 6 * 416, tlT xi 6, ())) 6 (by simp [pkT, tlT, N2]) ?_ ?_ 10 (by omega)
 ·intro i hi kn
  have hT := c9D (c08 (c2i xi)) (sK xi)
  have e1 : Q0 (List.take 256 (List.drop (i * 256) (b0t (c08 (c2i xi)) (sK xi))), List.take 256 (List.drop (i * 256) (eK xi)), ()) = some (tK xi i) := c5b (a56 hT hi) (a56 (d9F xi) hi)
  have e2 := d7i (d9M xi i)
  have e3 : a2F ((10 : Int), (c31 (tK xi i)).1, ()) = some (pkW 10 (B8 (c31 (tK xi i)).1), 0) := c8t (d := 10) (by omega) (d71 _).1 (d83 _)
  have e4 : n9 ((4096 : Int), (13 : Int), (c31 (tK xi i)).2, ()) = some (pkW 13 (a30 4096 (c31 (tK xi i)).2), 0) := a9e (d := 13) (by omega) (by omega) (d71 _).2 (d87 _)
  have f1 : pkT xi i ++ pkW 10 (B8 (c31 (tK xi i)).1) = pkT xi (i + 1) := by unfold pkT; rw [List.append_assoc]; rfl
  have f2 : tlT xi i ++ pkW 13 (a30 4096 (c31 (tK xi i)).2) = tlT xi (i + 1) := rfl
  unfold G3
  dsimp only
  rw [if_pos (by omega), if_pos (by omega), if_pos (by omega), if_pos (by omega), if_pos (by omega), if_pos (by omega), if_pos (by omega), Int.toNat_natCast, e1, Option.bind_some, e2, Option.bind_some, e3, Option.bind_some, if_neg (by simp), a6F, if_pos (by omega), e4, Option.bind_some, if_neg (by simp), a6F, if_pos (by omega), f1, f2, c7 (by omega) (by omega), show 32 + i * 320 + 32 * 10 = 32 + (i + 1) * 320 by omega, show 0 + i * 416 + 32 * 13 = 0 + (i + 1) * 416 by omega, show (i : Int) + 1 = ((i + 1 : Nat) : Int) by omega]
 ·intro kn
  unfold G3
  dsimp only
  rw [if_neg (by omega)]
theorem d6J (xi : List Int) : (skH xi).length = 128 := by
 unfold skH
 rw [List.length_append, List.length_append, (a6H xi).1, Q8 (by rw [b98]; omega), a1i]
theorem d2Q (xi : List Int) (n : Nat) : (skT xi n).length = 128 + n * 128 := by
 unfold skT
 rw [List.length_append, d6J, a0i (w := 128) fun i _ => a6F 4 _]
theorem c9x (xi : List Int) (n : Nat) : skT xi n ++ pkW 4 (a30 4 (b2s xi n).1) = skT xi (n + 1) := by
 unfold skT
 rw [List.append_assoc]
 rfl
theorem d9G {xi : List Int} {n1 n2 n4 n5 : Nat} {P X T : List Int} {β : Type} (K : _ → Option β) :
  m7 (G4 10) 10 (n1, 128 + 0 * 128, n2, (0 : Int), [0], n4, P, 128 + 0 * 128, skT xi 0, sK xi, X, n5, T, ()) K = K (.inr (n1, 128 + 5 * 128, n2, [0], n4, P, 128 + 5 * 128, skT xi 5, X, n5, T, ())) := by
 refine i8 (F := G4 10) (s := fun i => (n1, 128 + i * 128, n2, (i : Int), [0], n4, P, 128 + i * 128, skT xi i, sK xi, X, n5, T, ())) (y := .inr (n1, 128 + 5 * 128, n2, [0], n4, P, 128 + 5 * 128, skT xi 5, X, n5, T, ())) 5 rfl ?_ ?_ 10 (by omega)
 ·intro i hi kn
  have e4 : n9 ((4 : Int), (4 : Int), (b2s xi i).1, ()) = some (pkW 4 (a30 4 (b2s xi i).1), 0) := a9e (d := 4) (by omega) (by omega) (b8z xi i) (d4W _)
  have e5 : List.take 256 (List.drop (i * 256) (sK xi)) = (b2s xi i).1 := a9g (f := fun i => (b2s xi i).1) (fun j _ => (b8z xi j).1) hi
  unfold G4
  dsimp only
  rw [if_pos (by omega), if_pos (by omega), if_pos (by omega), Int.toNat_natCast, if_pos (by omega), e5, e4, Option.bind_some, if_neg (by simp), a6F, if_pos (by omega), c9x, c7 (by omega) (by omega), show 128 + i * 128 + 32 * 4 = 128 + (i + 1) * 128 by omega, show (i : Int) + 1 = ((i + 1 : Nat) : Int) by omega]
 ·intro kn
  unfold G4
  dsimp only
  rw [if_neg (by omega)]
theorem d9H {xi : List Int} {n1 n2 n4 n5 : Nat} {P T : List Int} {β : Type} (K : _ → Option β) :
  m7 (G5 10) 10 (n1, 128 + 5 * 128, n2, (0 : Int), [0], n4, P, 128 + 5 * 128, skT xi 5, eK xi, n5, T, ()) K = K (.inr (n1, 128 + 11 * 128, n2, [0], n4, P, 128 + 11 * 128, skT xi 11, n5, T, ())) := by
 refine i8 (F := G5 10) (s := fun i => (n1, 128 + (5 + i) * 128, n2, (i : Int), [0], n4, P, 128 + (5 + i) * 128, skT xi (5 + i), eK xi, n5, T, ())) (y := .inr (n1, 128 + 11 * 128, n2, [0], n4, P, 128 + 11 * 128, skT xi 11, n5, T, ())) 6 rfl ?_ ?_ 10 (by omega)
 ·intro i hi kn
  have e4 : n9 ((4 : Int), (4 : Int), (b2s xi (5 + i)).1, ()) = some (pkW 4 (a30 4 (b2s xi (5 + i)).1), 0) := a9e (d := 4) (by omega) (by omega) (b8z xi _) (d4W _)
  have e5 : List.take 256 (List.drop (i * 256) (eK xi)) = (b2s xi (5 + i)).1 := a9g (f := fun i => (b2s xi (5 + i)).1) (fun j _ => (b8z xi _).1) hi
  unfold G5
  dsimp only
  rw [if_pos (by omega), if_pos (by omega), if_pos (by omega), Int.toNat_natCast, if_pos (by omega), e5, e4, Option.bind_some, if_neg (by simp), a6F, if_pos (by omega), c9x, c7 (by omega) (by omega), show 128 + (5 + i) * 128 + 32 * 4 = 128 + (5 + (i + 1)) * 128 by omega, show 5 + i + 1 = 5 + (i + 1) by omega, show (i : Int) + 1 = ((i + 1 : Nat) : Int) by omega]
 ·intro kn
  unfold G5
  dsimp only
  rw [if_neg (by omega)]
end Go.Ax.TryP
set_option linter.unusedVariables false
namespace Go.Ax.TryP
open Go.Proofs
theorem c4d (xi : List Int) : d7X xi ↔ (∀ i, i < 5 → (b2s xi i).2 = 0) ∧ ∀ i, i < 6 → (b2s xi (5 + i)).2 = 0 := by
 constructor
 ·intro h
  exact ⟨fun i hi => h i (by omega), fun i hi => h (5 + i) (by omega)⟩
 ·intro h i hi
  by_cases h5 : i < 5
  ·exact h.1 i h5
  ·have := h.2 (i - 5) (by omega)
   rwa [show 5 + (i - 5) = i by omega] at this
theorem c9k (xi : List Int) : (pkD xi).length = 1952 ∧ bytes (pkD xi) := ⟨d6x xi 6, J7 (a6H xi).2 (a8d (fun i => b2d 10 _) 6)⟩
theorem c6k : ∀ x r, a2G x = some r → ∃ N, a4V N x = some r := by
 refine d9 (ks := a0N) (rs := a0O) fun x hw hq => ⟨10, ?_⟩
 obtain ⟨(xi : List Int), u⟩ := x
 have hxi : xi.length = 32 ∧ bytes xi := c3D.1 hw.1
 show a4V 10 (xi, u) = some (d3f xi)
 unfold a4V d3f
 dsimp only
 have hZ5 : (List.replicate 1280 (0 : Int)).length = 5 * 256 := by rw [List.length_replicate]
 have hZ6 : (List.replicate 1536 (0 : Int)).length = 6 * 256 := by rw [List.length_replicate]
 generalize List.replicate 1280 (0 : Int) = Z5 at hZ5 ⊢
 generalize List.replicate 1536 (0 : Int) = Z6 at hZ6 ⊢
 have e1 : J2 ((128 : Int), [List.take 32 (List.drop 0 xi), List.set (List.set (List.replicate 2 0) 0 (6 : Int)) 1 (5 : Int)], ()) = some (b00 xi) := by
  rw [show List.set (List.set (List.replicate 2 0) 0 (6 : Int)) 1 (5 : Int) = [6, 5] from rfl, List.drop_zero, List.take_of_length_le (by omega)]
  have e := b7d (n := 128) (l := [xi, [6, 5]]) (by omega) ⟨mB (by simp), fun zs hzs => by
   rcases List.mem_cons.1 hzs with rfl | hzs
   ·exact ⟨mB (by omega), hxi.2⟩
   ·rw [List.mem_singleton.1 hzs]
    refine ⟨mB (by simp), fun z hz => ?_⟩
    rcases List.mem_cons.1 hz with rfl | hz
    ·omega
    ·rw [List.mem_singleton.1 hz]; omega⟩
  refine e.trans ?_
  unfold b00
  simp
 have hl := b98 xi
 rw [e1, Option.bind_some, hl, if_pos (by omega), if_pos (by omega), if_pos (by omega), if_pos (by omega), show 128 - 32 = 96 from rfl, show 128 - 96 = 32 from rfl]
 by_cases c1 : ∀ i, i < 5 → (b2s xi i).2 = 0
 ·refine ((d9q (xi := xi) hZ5 _).1 c1).trans ?_
  dsimp only
  by_cases c2 : ∀ i, i < 6 → (b2s xi (5 + i)).2 = 0
  ·refine ((d9p (xi := xi) hZ6 _).1 c2).trans ?_
   dsimp only
   rw [show List.take 32 (List.drop 0 (b00 xi)) = c2i xi from rfl, c0t (a6H xi), Option.bind_some]
   by_cases c3 : a4N (c2i xi)
   ·have hmi := d2f (c2i xi)
    rw [b5o c3, if_neg (by simp), a3U ⟨(c4d xi).2 ⟨c1, c2⟩, c3⟩, show xg (some (false, (130 : Int), (c08 (c2i xi), ()))) = some (c08 (c2i xi), ()) from rfl, Option.bind_some, c5i hmi (d9L xi), Option.bind_some, c8w ⟨by rw [(a6H xi).1]; omega, (a6H xi).2⟩, Option.bind_some, (a6H xi).1]
    refine (d9I (xi := xi) _).trans ?_
    dsimp only
    have hp := c9k xi
    have e2 : J2 ((64 : Int), [pkT xi 6], ()) = some (a3O (pkD xi) 64) := by
     have e := b7d (n := 64) (l := [pkD xi]) (by omega) ⟨mB (by simp), fun zs hzs => by rw [List.mem_singleton.1 hzs]; exact ⟨mB (by rw [hp.1]; omega), hp.2⟩⟩
     refine e.trans ?_
     simp
    have e3 : m6 ([List.take 32 (List.drop 0 (b00 xi)), List.take 32 (List.drop 96 (b00 xi)), a3O (pkD xi) 64], ()) = some (skT xi 0) := by
     have hk : (T6 (b00 xi) 96 32).length = 32 ∧ bytes (T6 (b00 xi) 96 32) := ⟨Q8 (by omega), D3 (c8r xi) _ _⟩
     have e := c0n (l := [c2i xi, T6 (b00 xi) 96 32, a3O (pkD xi) 64]) ⟨by simp, by simp [(a6H xi).1, hk.1, a1i]⟩ ⟨mB (by simp), fun zs hzs => by
      rcases List.mem_cons.1 hzs with rfl | hzs
      ·exact ⟨mB (by rw [(a6H xi).1]; omega), (a6H xi).2⟩
      rcases List.mem_cons.1 hzs with rfl | hzs
      ·exact ⟨mB (by rw [hk.1]; omega), hk.2⟩
      ·rw [List.mem_singleton.1 hzs]; exact ⟨mB (by rw [a1i]; omega), a7x _ _⟩⟩
     refine e.trans ?_
     simp [skT, skH, N2]
    have f1 : (skT xi 0).length = 128 + 0 * 128 := d2Q xi 0
    rw [e2, Option.bind_some, e3, Option.bind_some, f1]
    refine (d9G (xi := xi) _).trans ?_
    dsimp only
    refine (d9H (xi := xi) _).trans ?_
    dsimp only
    rw [if_pos (by omega)]
    rfl
   ·rw [b2r c3, if_pos rfl, a2q (fun h => c3 h.2)]
    rfl
  ·refine ((d9p (xi := xi) hZ6 _).2 c2).trans ?_
   rw [a2q (fun h => c2 ((c4d xi).1 h.1).2)]
   rfl
 ·refine ((d9q (xi := xi) hZ5 _).2 c1).trans ?_
  rw [a2q (fun h => c1 ((c4d xi).1 h.1).1)]
  rfl
theorem c5e {xi : List Int} (h : xi.length = 32 ∧ bytes xi) : a2G (xi, ()) = some (d3f xi) :=
 d8 (ks := a0N) (rs := a0O) (x := (xi, ())) ⟨c3D.2 h, trivial⟩ trivial
end Go.Ax.TryP
set_option linter.unusedVariables false
namespace Go.Ax.TryP
open Go.Proofs
def frc {α : Type} (n : Nat) (f : Nat → α) : α := match n with
 | 0 => f 0
 | Nat.succ k => f (Nat.succ k)
theorem c0Y {α : Type} (n : Nat) (f : Nat → α) : frc n f = f n := by cases n <;> rfl
def c5H {α : Type} : List Nat → (List Nat → α) → α
 | [], K => K []
 | a :: l, K => frc a fun v => c5H l fun l' => K (v :: l')
theorem a9l {α : Type} : ∀ (l : List Nat) (K : List Nat → α), c5H l K = K l
 | [], K => rfl
 | a :: l, K => by unfold c5H; rw [c0Y, a9l l]
def cl (s : List Nat) : List Int := s.map fun (n : Nat) => (n : Int)
def g0 (s : List Nat) (i : Nat) : Nat := s.getD i 0
theorem b08 (s : List Nat) (i : Nat) : at0 (cl s) i = (g0 s i : Int) := by
 unfold at0 cl g0
 rw [List.getD_eq_getElem?_getD, List.getD_eq_getElem?_getD, List.getElem?_map]
 cases s[i]? <;> rfl
def c41 (s : List Nat) : Prop := ∀ z ∈ s, z < 2 ^ 64
theorem a0b {s : List Nat} (h : c41 s) (i : Nat) : g0 s i < 2 ^ 64 := by
 unfold g0
 rw [List.getD_eq_getElem?_getD]
 cases he : s[i]? with
 | none => decide
 | some v => exact h v (List.mem_of_getElem? he)
def b2h (a n : Nat) : Nat := Nat.lor (Nat.mod (Nat.mul a (Nat.pow 2 n)) 18446744073709551616) (Nat.div a (Nat.pow 2 (Nat.sub 64 n)))
theorem c9r (a n : Nat) : b2h a n = (a * 2 ^ n % 2 ^ 64) ||| (a / 2 ^ (64 - n)) := rfl
theorem c70 {a n : Nat} (h : a < 2 ^ 64) : b2h a n < 2 ^ 64 := by
 rw [c9r]
 exact Nat.or_lt_two_pow (Nat.mod_lt _ (by decide)) (Nat.lt_of_le_of_lt (Nat.div_le_self _ _) h)
theorem b0a {a b : Nat} (ha : a < 2 ^ 64) (hb : b < 2 ^ 64) : x64 (a : Int) (b : Int) = ((Nat.xor a b : Nat) : Int) := c0d rfl ha hb
theorem a3P {a b : Nat} (ha : a < 2 ^ 64) (hb : b < 2 ^ 64) : Nat.xor a b < 2 ^ 64 := Nat.xor_lt_two_pow ha hb
theorem d2a {a b : Nat} (ha : a < 2 ^ 64) : Nat.land a b < 2 ^ 64 := Nat.lt_of_le_of_lt Nat.and_le_left ha
theorem d2G {a n : Nat} (ha : a < 2 ^ 64) (hn : n < 64) : rot (a : Int) (n : Int) = (b2h a n : Int) := by
 unfold rot
 rw [c9r]
 by_cases h0 : n = 0
 ·subst h0
  rw [if_pos (show ((0 : Nat) : Int) = 0 from rfl), Nat.pow_zero, Nat.mul_one, Nat.mod_eq_of_lt ha, Nat.sub_zero, Nat.div_eq_of_lt ha, Nat.or_zero]
 ·rw [if_neg (by omega), show (64 : Int) - (n : Int) = ((64 - n : Nat) : Int) by omega, a9o (by simp [IntKind.bits])]
  have e : b0A .u64 (a : Int) (n : Int) = ((a * 2 ^ n % 2 ^ 64 : Nat) : Int) := by
   unfold b0A
   rw [Int.toNat_natCast, Nat.min_eq_left (by simp [IntKind.bits]; omega)]
   simp [IntKind.wrap, IntKind.signed, IntKind.bits]
  rw [e]
  exact c37 rfl (Nat.mod_lt _ (by decide)) (Nat.lt_of_le_of_lt (Nat.div_le_self _ _) ha)
def c7F : List Nat := [0, 1, 62, 28, 27, 36, 44, 6, 55, 20, 3, 10, 43, 25, 39, 41, 45, 15, 21, 8, 18, 2, 61, 56, 14]
def d1t : List Nat := [0x0000000000000001, 0x0000000000008082, 0x800000000000808a, 0x8000000080008000, 0x000000000000808b, 0x0000000080000001, 0x8000000080008081, 0x8000000000008009, 0x000000000000008a, 0x0000000000000088, 0x0000000080008009, 0x000000008000000a, 0x000000008000808b, 0x800000000000008b, 0x8000000000008089, 0x8000000000008003, 0x8000000000008002, 0x8000000000000080, 0x000000000000800a, 0x800000008000000a, 0x8000000080008081, 0x8000000000008080, 0x0000000080000001, 0x8000000080008008]
theorem d6l : offs = cl c7F := rfl
theorem d5O : cons = cl d1t := rfl
theorem d6m (i : Nat) : g0 c7F i < 64 := by
 unfold g0
 rw [List.getD_eq_getElem?_getD]
 cases he : c7F[i]? with
 | none => decide
 | some v => exact (by decide : ∀ z ∈ c7F, z < 64) v (List.mem_of_getElem? he)
def cFN (s : List Nat) (x : Nat) : Nat := Nat.xor (Nat.xor (Nat.xor (Nat.xor (g0 s x) (g0 s (x + 5))) (g0 s (x + 10))) (g0 s (x + 15))) (g0 s (x + 20))
def dFN (s : List Nat) (x : Nat) : Nat := Nat.xor (cFN s ((x + 4) % 5)) (b2h (cFN s ((x + 1) % 5)) 1)
def tFN (s : List Nat) (i : Nat) : Nat := b2h (Nat.xor (g0 s i) (dFN s (i % 5))) (g0 c7F i)
def bFN (s : List Nat) (j : Nat) : Nat := tFN s (d3Z j)
def eFN (b : Nat → Nat) (i : Nat) : Nat := Nat.xor (b i) (Nat.land (Nat.xor 18446744073709551615 (b (i / 5 * 5 + (i + 1) % 5))) (b (i / 5 * 5 + (i + 2) % 5)))
def d69 (s : List Nat) : List Nat := (List.range 25).map (eFN (bFN s))
def d6C (s : List Nat) (c : Nat) : List Nat := (d69 s).set 0 (Nat.xor (g0 (d69 s) 0) c)
theorem c5q {s : List Nat} (h : c41 s) (x : Nat) : cFN s x < 2 ^ 64 := a3P (a3P (a3P (a3P (a0b h _) (a0b h _)) (a0b h _)) (a0b h _)) (a0b h _)
theorem d7q {s : List Nat} (h : c41 s) (x : Nat) : cF (cl s) x = (cFN s x : Int) := by
 have a0 := a0b h x
 have a1 := a0b h (x + 5)
 have a2 := a0b h (x + 10)
 have a3 := a0b h (x + 15)
 have a4 := a0b h (x + 20)
 unfold cF cFN
 rw [b08, b08, b08, b08, b08, b0a a0 a1, b0a (a3P a0 a1) a2, b0a (a3P (a3P a0 a1) a2) a3, b0a (a3P (a3P (a3P a0 a1) a2) a3) a4]
theorem d1z {s : List Nat} (h : c41 s) (x : Nat) : dFN s x < 2 ^ 64 := a3P (c5q h _) (c70 (c5q h _))
theorem d8X {s : List Nat} (h : c41 s) (x : Nat) : dF (cl s) x = (dFN s x : Int) := by
 unfold dF dFN
 rw [d7q h, d7q h, show (1 : Int) = ((1 : Nat) : Int) from rfl, d2G (c5q h _) (by omega), b0a (c5q h _) (c70 (c5q h _))]
theorem d4P {s : List Nat} (h : c41 s) (j : Nat) : bFN s j < 2 ^ 64 := c70 (a3P (a0b h _) (d1z h _))
theorem d8P {s : List Nat} (h : c41 s) (j : Nat) : bF (cl s) j = (bFN s j : Int) := by
 unfold bF tF bFN tFN
 have e : offs.getD (d3Z j) 0 = (g0 c7F (d3Z j) : Int) := by rw [d6l]; exact b08 c7F _
 rw [b08, d8X h, b0a (a0b h _) (d1z h _), e, d2G (a3P (a0b h _) (d1z h _)) (d6m _)]
theorem d7w {b : Nat → Nat} (h : ∀ j, b j < 2 ^ 64) (i : Nat) : eFN b i < 2 ^ 64 := a3P (h _) (d2a (a3P (by decide) (h _)))
theorem d8Z {b : Nat → Nat} {b' : Nat → Int} (h : ∀ j, b j < 2 ^ 64) (e : ∀ j, b' j = (b j : Int)) (i : Nat) : eF b' i = (eFN b i : Int) := by
 unfold eF eFN
 rw [e, e, e, show (18446744073709551615 : Int) = ((18446744073709551615 : Nat) : Int) from rfl, c0d rfl (by decide) (h _)]
 have h1 : 18446744073709551615 ^^^ b (i / 5 * 5 + (i + 1) % 5) < 2 ^ 64 := a3P (by decide) (h _)
 rw [b5z rfl h1 (h _)]
 exact b0a (h _) (d2a h1)
theorem c09 {s : List Nat} (h : c41 s) : c41 (d69 s) := by
 intro z hz
 obtain ⟨i, -, rfl⟩ := List.mem_map.1 hz
 exact d7w (d4P h) i
theorem d6h {s : List Nat} (h : c41 s) : d36 (cl s) = cl (d69 s) := by
 unfold d36 d69 cl
 rw [List.map_map]
 exact List.map_congr_left fun i _ => d8Z (d4P h) (d8P h) i
theorem d2H {s : List Nat} (h : c41 s) {c : Nat} (hc : c < 2 ^ 64) : c9s (cl s) (c : Int) = cl (d6C s c) := by
 unfold c9s d6C
 rw [d6h h, b08, b0a (a0b (c09 h) 0) hc]
 unfold cl
 rw [List.map_set]
theorem c80 {s : List Nat} (h : c41 s) {i v : Nat} (hv : v < 2 ^ 64) : c41 (s.set i v) := by
 intro z hz
 rcases List.mem_or_eq_of_mem_set hz with hz | rfl
 ·exact h z hz
 ·exact hv
theorem d2F {s : List Nat} (h : c41 s) {c : Nat} (hc : c < 2 ^ 64) : c41 (d6C s c) := c80 (c09 h) (a3P (a0b (c09 h) 0) hc)
theorem d4k (s : List Nat) (c : Nat) : (d6C s c).length = 25 := by simp [d6C, d69]
def rnd (s : List Nat) (c : Nat) : List Nat := match s with
 | [a0, a1, a2, a3, a4, a5, a6, a7, a8, a9, a10, a11, a12, a13, a14, a15, a16, a17, a18, a19, a20, a21, a22, a23, a24] =>
  frc (Nat.xor (Nat.xor (Nat.xor (Nat.xor a0 a5) a10) a15) a20) fun c0 =>
  frc (Nat.xor (Nat.xor (Nat.xor (Nat.xor a1 a6) a11) a16) a21) fun c1 =>
  frc (Nat.xor (Nat.xor (Nat.xor (Nat.xor a2 a7) a12) a17) a22) fun c2 =>
  frc (Nat.xor (Nat.xor (Nat.xor (Nat.xor a3 a8) a13) a18) a23) fun c3 =>
  frc (Nat.xor (Nat.xor (Nat.xor (Nat.xor a4 a9) a14) a19) a24) fun c4 =>
  frc (Nat.xor c4 (b2h c1 1)) fun d0 =>
  frc (Nat.xor c0 (b2h c2 1)) fun d1 =>
  frc (Nat.xor c1 (b2h c3 1)) fun d2 =>
  frc (Nat.xor c2 (b2h c4 1)) fun d3 =>
  frc (Nat.xor c3 (b2h c0 1)) fun d4 =>
  frc (b2h (Nat.xor a0 d0) 0) fun b0 =>
  frc (b2h (Nat.xor a6 d1) 44) fun b1 =>
  frc (b2h (Nat.xor a12 d2) 43) fun b2 =>
  frc (b2h (Nat.xor a18 d3) 21) fun b3 =>
  frc (b2h (Nat.xor a24 d4) 14) fun b4 =>
  frc (b2h (Nat.xor a3 d3) 28) fun b5 =>
  frc (b2h (Nat.xor a9 d4) 20) fun b6 =>
  frc (b2h (Nat.xor a10 d0) 3) fun b7 =>
  frc (b2h (Nat.xor a16 d1) 45) fun b8 =>
  frc (b2h (Nat.xor a22 d2) 61) fun b9 =>
  frc (b2h (Nat.xor a1 d1) 1) fun b10 =>
  frc (b2h (Nat.xor a7 d2) 6) fun b11 =>
  frc (b2h (Nat.xor a13 d3) 25) fun b12 =>
  frc (b2h (Nat.xor a19 d4) 8) fun b13 =>
  frc (b2h (Nat.xor a20 d0) 18) fun b14 =>
  frc (b2h (Nat.xor a4 d4) 27) fun b15 =>
  frc (b2h (Nat.xor a5 d0) 36) fun b16 =>
  frc (b2h (Nat.xor a11 d1) 10) fun b17 =>
  frc (b2h (Nat.xor a17 d2) 15) fun b18 =>
  frc (b2h (Nat.xor a23 d3) 56) fun b19 =>
  frc (b2h (Nat.xor a2 d2) 62) fun b20 =>
  frc (b2h (Nat.xor a8 d3) 55) fun b21 =>
  frc (b2h (Nat.xor a14 d4) 39) fun b22 =>
  frc (b2h (Nat.xor a15 d0) 41) fun b23 =>
  frc (b2h (Nat.xor a21 d1) 2) fun b24 =>
  [Nat.xor (Nat.xor b0 (Nat.land (Nat.xor 18446744073709551615 b1) b2)) c, Nat.xor b1 (Nat.land (Nat.xor 18446744073709551615 b2) b3), Nat.xor b2 (Nat.land (Nat.xor 18446744073709551615 b3) b4), Nat.xor b3 (Nat.land (Nat.xor 18446744073709551615 b4) b0), Nat.xor b4 (Nat.land (Nat.xor 18446744073709551615 b0) b1), Nat.xor b5 (Nat.land (Nat.xor 18446744073709551615 b6) b7), Nat.xor b6 (Nat.land (Nat.xor 18446744073709551615 b7) b8), Nat.xor b7 (Nat.land (Nat.xor 18446744073709551615 b8) b9), Nat.xor b8 (Nat.land (Nat.xor 18446744073709551615 b9) b5), Nat.xor b9 (Nat.land (Nat.xor 18446744073709551615 b5) b6), Nat.xor b10 (Nat.land (Nat.xor 18446744073709551615 b11) b12), Nat.xor b11 (Nat.land (Nat.xor 18446744073709551615 b12) b13), Nat.xor b12 (Nat.land (Nat.xor 18446744073709551615 b13) b14), Nat.xor b13 (Nat.land (Nat.xor 18446744073709551615 b14) b10), Nat.xor b14 (Nat.land (Nat.xor 18446744073709551615 b10) b11), Nat.xor b15 (Nat.land (Nat.xor 18446744073709551615 b16) b17), Nat.xor b16 (Nat.land (Nat.xor 18446744073709551615 b17) b18), Nat.xor b17 (Nat.land (Nat.xor 18446744073709551615 b18) b19), Nat.xor b18 (Nat.land (Nat.xor 18446744073709551615 b19) b15), Nat.xor b19 (Nat.land (Nat.xor 18446744073709551615 b15) b16), Nat.xor b20 (Nat.land (Nat.xor 18446744073709551615 b21) b22), Nat.xor b21 (Nat.land (Nat.xor 18446744073709551615 b22) b23), Nat.xor b22 (Nat.land (Nat.xor 18446744073709551615 b23) b24), Nat.xor b23 (Nat.land (Nat.xor 18446744073709551615 b24) b20), Nat.xor b24 (Nat.land (Nat.xor 18446744073709551615 b20) b21)]
 | _ => []
theorem d8b (a0 a1 a2 a3 a4 a5 a6 a7 a8 a9 a10 a11 a12 a13 a14 a15 a16 a17 a18 a19 a20 a21 a22 a23 a24 c : Nat) : rnd [a0, a1, a2, a3, a4, a5, a6, a7, a8, a9, a10, a11, a12, a13, a14, a15, a16, a17, a18, a19, a20, a21, a22, a23, a24] c = d6C [a0, a1, a2, a3, a4, a5, a6, a7, a8, a9, a10, a11, a12, a13, a14, a15, a16, a17, a18, a19, a20, a21, a22, a23, a24] c := by
 unfold rnd
 simp only [c0Y]
 rfl
theorem d85 : ∀ {s : List Nat}, s.length = 25 → ∃ a0 a1 a2 a3 a4 a5 a6 a7 a8 a9 a10 a11 a12 a13 a14 a15 a16 a17 a18 a19 a20 a21 a22 a23 a24, s = [a0, a1, a2, a3, a4, a5, a6, a7, a8, a9, a10, a11, a12, a13, a14, a15, a16, a17, a18, a19, a20, a21, a22, a23, a24]
 | [a0, a1, a2, a3, a4, a5, a6, a7, a8, a9, a10, a11, a12, a13, a14, a15, a16, a17, a18, a19, a20, a21, a22, a23, a24], _ => ⟨a0, a1, a2, a3, a4, a5, a6, a7, a8, a9, a10, a11, a12, a13, a14, a15, a16, a17, a18, a19, a20, a21, a22, a23, a24, rfl⟩
theorem d6D {s : List Nat} (h : s.length = 25) (c : Nat) : rnd s c = d6C s c := by
 obtain ⟨a0, a1, a2, a3, a4, a5, a6, a7, a8, a9, a10, a11, a12, a13, a14, a15, a16, a17, a18, a19, a20, a21, a22, a23, a24, rfl⟩ := d85 h
 exact d8b a0 a1 a2 a3 a4 a5 a6 a7 a8 a9 a10 a11 a12 a13 a14 a15 a16 a17 a18 a19 a20 a21 a22 a23 a24 c
end Go.Ax.TryP
set_option linter.unusedVariables false
namespace Go.Ax.TryP
open Go.Proofs
def c6b : Nat → List Nat → List Nat
 | 0, s => s
 | n + 1, s => rnd (c6b n s) (g0 d1t n)
def a3x (s : List Nat) : List Nat := c6b 24 s
def c40 (s : List Nat) : Prop := s.length = 25 ∧ c41 s
theorem d1u (i : Nat) : g0 d1t i < 2 ^ 64 := a0b (by unfold c41; decide) i
theorem c1M {s : List Nat} (h : c40 s) : ∀ n, c40 (c6b n s) ∧ d0u n (cl s) = cl (c6b n s)
 | 0 => ⟨h, rfl⟩
 | n + 1 => by
  obtain ⟨⟨hl, hg⟩, e⟩ := c1M h n
  have e1 : cons.getD n 0 = (g0 d1t n : Int) := by rw [d5O]; exact b08 d1t n
  unfold c6b d0u
  rw [d6D hl, e, e1]
  exact ⟨⟨d4k _ _, d2F hg (d1u n)⟩, d2H hg (d1u n)⟩
theorem b8i {s : List Nat} (h : c40 s) : c40 (a3x s) := (c1M h 24).1
theorem c4s {s : List Nat} (h : c40 s) : c2N (cl s) = cl (a3x s) := (c1M h 24).2
def d0X (s : List Nat) (p x : Nat) : List Nat := s.set (Nat.div p 8) (Nat.xor (g0 s (Nat.div p 8)) (Nat.mul x (Nat.pow 2 (Nat.mul 8 (Nat.mod p 8)))))
theorem c67 {x p : Nat} (hx : x < 256) : x * 2 ^ (8 * (p % 8)) < 2 ^ 64 := by
 have h : 2 ^ (8 * (p % 8)) ≤ 2 ^ 56 := Nat.pow_le_pow_right (by decide) (by omega)
 have h1 : x * 2 ^ (8 * (p % 8)) ≤ 255 * 2 ^ 56 := Nat.mul_le_mul (by omega) h
 omega
theorem c1O {s : List Nat} (h : c40 s) {p x : Nat} (hx : x < 256) : c40 (d0X s p x) :=
 ⟨by unfold d0X; rw [List.length_set]; exact h.1, c80 h.2 (a3P (a0b h.2 _) (c67 hx))⟩
theorem c7O {s : List Nat} (h : c40 s) {p x : Nat} (hx : x < 256) : d3i (cl s) p (x : Int) = cl (d0X s p x) := by
 have e : b0A .u64 (x : Int) ((8 * (p % 8) : Nat) : Int) = ((x * 2 ^ (8 * (p % 8)) : Nat) : Int) := c39 rfl (by simp [IntKind.bits]; omega) (c67 hx)
 unfold d3i
 rw [b08, e, b0a (a0b h.2 _) (c67 hx)]
 unfold cl d0X
 rw [List.map_set]
 rfl
def d1P {α : Type} (rate : Nat) : List Nat → List Nat → Nat → (List Nat → Nat → α) → α
 | [], s, p, K => K s p
 | x :: l, s, p, K => frc (Nat.succ p) fun q => match Nat.beq q rate with
  | true => c5H (a3x (d0X s p x)) fun s' => d1P rate l s' 0 K
  | false => c5H (d0X s p x) fun s' => d1P rate l s' q K
def b1b (l : List Nat) : Prop := ∀ z ∈ l, z < 256
theorem c32 {rate : Nat} {α : Type} (K : List Nat → Nat → α) : ∀ (l s : List Nat) (p : Nat), b1b l → c40 s →
  ∃ s' p', c40 s' ∧ d1P rate l s p K = K s' p' ∧ b0z rate (cl s, p) (cl l) = (cl s', p')
 | [], s, p, _, hs => ⟨s, p, hs, rfl, rfl⟩
 | x :: l, s, p, hl, hs => by
  have hx : x < 256 := hl x (List.mem_cons_self ..)
  have hl' : b1b l := fun z hz => hl z (List.mem_cons_of_mem _ hz)
  have hp := c1O (p := p) hs hx
  have e1 : b0z rate (cl s, p) (cl (x :: l)) = b0z rate (c6O rate (cl s, p) (x : Int)) (cl l) := rfl
  unfold d1P
  rw [c0Y, e1]
  unfold c6O
  dsimp only
  rw [c7O hs hx]
  by_cases hq : p + 1 = rate
  ·have hb : Nat.beq (Nat.succ p) rate = true := by rw [← hq]; exact Nat.beq_refl _
   rw [hb, if_pos hq, c4s hp]
   dsimp only
   rw [a9l]
   exact c32 K l _ 0 hl' (b8i hp)
  ·have hb : Nat.beq (Nat.succ p) rate = false := by
    cases h : Nat.beq (Nat.succ p) rate with
    | false => rfl
    | true => exact absurd (Nat.eq_of_beq_eq_true h) hq
   rw [hb, if_neg hq]
   dsimp only
   rw [a9l]
   exact c32 K l _ _ hl' hp
def zN : List Nat := List.replicate 25 0
theorem d62 : c40 zN := ⟨by decide, by unfold c41; decide⟩
theorem d9j : z25 = cl zN := rfl
def d7f {α : Type} (rate e : Nat) (l : List Nat) (K : List Nat → α) : α :=
 d1P rate l zN 0 fun s p => c5H (a3x (d0X (d0X s p e) (Nat.sub rate 1) 128)) K
theorem c6U {rate e : Nat} (he : e < 256) {l : List Nat} (hl : b1b l) {α : Type} (K : List Nat → α) :
  ∃ s, c40 s ∧ d7f rate e l K = K s ∧ Q6 rate (e : Int) (z25, 0) (cl l) = cl s := by
 obtain ⟨s', p', hs, h1, h2⟩ := c32 (rate := rate) (fun s p => c5H (a3x (d0X (d0X s p e) (Nat.sub rate 1) 128)) K) l zN 0 hl d62
 have ha := c1O (p := p') hs he
 have hb := c1O (p := rate - 1) ha (x := 128) (by decide)
 refine ⟨a3x (d0X (d0X s' p' e) (rate - 1) 128), b8i hb, ?_, ?_⟩
 ·unfold d7f
  rw [h1, a9l]
  rfl
 ·unfold Q6
  rw [d9j, h2]
  dsimp only
  rw [c7O hs he, show (128 : Int) = ((128 : Nat) : Int) from rfl, c7O ha (by decide), c4s hb]
def a7C (s : List Nat) (i : Nat) : Nat := Nat.mod (Nat.div (g0 s (Nat.div i 8)) (Nat.pow 2 (Nat.mul 8 (Nat.mod i 8)))) 256
theorem c5p (s : List Nat) (i : Nat) : c8E (cl s) i = (a7C s i : Int) := by
 unfold c8E
 rw [b08, a9o (by simp [IntKind.bits]; omega), a97]
 exact (Int.natCast_emod _ _).symm
def one (b : Bool) : Nat := match b with
 | true => 1
 | false => 0
end Go.Ax.TryP
set_option linter.unusedVariables false
namespace Go.Ax.TryP
open Go.Proofs
def b9f (s : List Nat) : Nat → List Nat
 | 0 => s
 | k + 1 => a3x (b9f s k)
theorem d2m {s : List Nat} (h : c40 s) : ∀ k, c40 (b9f s k) ∧ a9Y k (cl s) = cl (b9f s k)
 | 0 => ⟨h, rfl⟩
 | k + 1 => by
  obtain ⟨h1, h2⟩ := d2m h k
  refine ⟨b8i h1, ?_⟩
  show c2N (a9Y k (cl s)) = _
  rw [h2, c4s h1]
  rfl
theorem c9j {rate : Nat} {s : List Nat} (h : c40 s) {k j : Nat} (hj : j < rate) : b2E rate (cl s) (k * rate + j) = (a7C (b9f s k) j : Int) := by
 unfold b2E
 rw [show (k * rate + j) / rate = k by rw [Nat.add_comm, Nat.add_mul_div_right _ _ (by omega), Nat.div_eq_of_lt hj, Nat.zero_add], show (k * rate + j) % rate = j by rw [Nat.add_comm, Nat.add_mul_mod_self_right, Nat.mod_eq_of_lt hj], (d2m h k).2]
 exact c5p _ _
def okC (s : List Nat) (t : Nat) : Nat := frc (a7C s (Nat.mul 3 t)) fun a => frc (a7C s (Nat.add (Nat.mul 3 t) 1)) fun b => frc (a7C s (Nat.add (Nat.mul 3 t) 2)) fun c => one (Nat.ble (Nat.succ (Nat.add (Nat.add a (Nat.mul 256 b)) (Nat.mul 65536 (Nat.mod c 128)))) 8380417)
def cnD (s : List Nat) : Nat → Nat
 | 0 => 0
 | t + 1 => Nat.add (cnD s t) (okC s t)
def d9h (s : List Nat) : Nat → Nat
 | 0 => 0
 | k + 1 => d9h s k + cnD (b9f s k) 56
theorem d7R (n : Nat) (z : Int) (hz : z = (n : Int)) : (if z < 8380417 then [z] else []).length = one (Nat.ble (Nat.succ n) 8380417) := by
 subst hz
 by_cases h : n < 8380417
 ·rw [if_pos (by omega), show Nat.ble (Nat.succ n) 8380417 = true by rw [Nat.ble_eq]; omega]
  rfl
 ·rw [if_neg (by omega), show Nat.ble (Nat.succ n) 8380417 = false by rw [← Bool.not_eq_true, Nat.ble_eq]; omega]
  rfl
theorem d4J {l : List Int} {s : List Nat} (h : c40 s) (ha : Q6 168 31 (z25, 0) l = cl s) (k : Nat) : ∀ t, t ≤ 56 → (a1j (b1x l) (56 * k + t)).length = (a1j (b1x l) (56 * k)).length + cnD (b9f s k) t
 | 0, _ => rfl
 | t + 1, ht => by
  have e : ∀ j, j < 168 → shk l (k * 168 + j) = (a7C (b9f s k) j : Int) := fun j hj => by
   unfold shk
   rw [ha]
   exact c9j h hj
  show (a1j (b1x l) (56 * k + t) ++ b1x l (56 * k + t)).length = _
  rw [List.length_append, d4J h ha k t (by omega), Nat.add_assoc]
  show _ + (cnD (b9f s k) t + (b1x l (56 * k + t)).length) = _ + (cnD (b9f s k) t + okC (b9f s k) t)
  refine congrArg (_ + ·) (congrArg (cnD (b9f s k) t + ·) ?_)
  unfold b1x okC
  rw [c0Y, c0Y, c0Y]
  refine d7R _ _ ?_
  unfold c2k
  rw [show 3 * (56 * k + t) = k * 168 + 3 * t by omega, e _ (by omega), show k * 168 + 3 * t + 1 = k * 168 + (3 * t + 1) by omega, e _ (by omega), show k * 168 + 3 * t + 2 = k * 168 + (3 * t + 2) by omega, e _ (by omega)]
  show _ = ((a7C (b9f s k) (3 * t) + 256 * a7C (b9f s k) (3 * t + 1) + 65536 * (a7C (b9f s k) (3 * t + 2) % 128) : Nat) : Int)
  omega
theorem d03 {l : List Int} {s : List Nat} (h : c40 s) (ha : Q6 168 31 (z25, 0) l = cl s) : ∀ k, (a1j (b1x l) (56 * k)).length = d9h s k
 | 0 => rfl
 | k + 1 => by
  rw [show 56 * (k + 1) = 56 * k + 56 by omega, d4J h ha k 56 (Nat.le_refl _), d03 h ha k]
  rfl
def d9e (l : List Nat) : Bool := d7f 168 31 l fun s0 => c5H (a3x s0) fun s1 => c5H (a3x s1) fun s2 => c5H (a3x s2) fun s3 => c5H (a3x s3) fun s4 =>
 Nat.ble 256 (Nat.add (Nat.add (Nat.add (Nat.add (cnD s0 56) (cnD s1 56)) (cnD s2 56)) (cnD s3 56)) (cnD s4 56))
theorem d6p {l : List Nat} (hl : b1b l) (h34 : l.length = 34) (h : d9e l = true) : (d2E (cl l)).2 = 0 := by
 obtain ⟨s, hs, h1, h2⟩ := c6U (rate := 168) (e := 31) (by decide) hl fun s0 => c5H (a3x s0) fun s1 => c5H (a3x s1) fun s2 => c5H (a3x s2) fun s3 => c5H (a3x s3) fun s4 =>
  Nat.ble 256 (Nat.add (Nat.add (Nat.add (Nat.add (cnD s0 56) (cnD s1 56)) (cnD s2 56)) (cnD s3 56)) (cnD s4 56))
 unfold d9e at h
 rw [h1, a9l, a9l, a9l, a9l] at h
 have e := d03 (l := cl l) hs h2 5
 have e5 : d9h s 5 = 0 + cnD s 56 + cnD (a3x s) 56 + cnD (a3x (a3x s)) 56 + cnD (a3x (a3x (a3x s))) 56 + cnD (a3x (a3x (a3x (a3x s)))) 56 := rfl
 have hge : 256 ≤ (a1j (b1x (cl l)) (56 * 5)).length := by
  rw [e, e5, Nat.zero_add]
  exact Nat.le_of_ble_eq_true h
 have hf := (b07 (f := b1x (cl l)) (t := 56 * 5) (u := 1024) (by decide) hge).1
 have hc : (cl l).length = 34 := by unfold cl; rw [List.length_map, h34]
 unfold d2E
 rw [if_neg (by rw [hc]; decide)]
 generalize a1j (b1x (cl l)) 1024 = A at hf ⊢
 rw [if_neg (by omega)]
def d9c (s : List Nat) (q : Nat) : Nat := frc (a7C s q) fun b => Nat.add (one (Nat.ble (Nat.succ (Nat.mod b 16)) 9)) (one (Nat.ble (Nat.succ (Nat.div b 16)) 9))
def cnB (s : List Nat) : Nat → Nat
 | 0 => 0
 | q + 1 => Nat.add (cnB s q) (d9c s q)
theorem d2d (n : Nat) (z : Int) (hz : z = (n : Int)) : (d5m 4 z).length = one (Nat.ble (Nat.succ n) 9) := by
 subst hz
 unfold d5m
 rw [if_neg (by decide)]
 by_cases h : n < 9
 ·rw [if_pos (by omega), show Nat.ble (Nat.succ n) 9 = true by rw [Nat.ble_eq]; omega]
  rfl
 ·rw [if_neg (by omega), show Nat.ble (Nat.succ n) 9 = false by rw [← Bool.not_eq_true, Nat.ble_eq]; omega]
  rfl
theorem c6V {l : List Int} {s : List Nat} (h : c40 s) (ha : Q6 136 31 (z25, 0) l = cl s) (k : Nat) : ∀ q, q ≤ 136 → (a1j (a5A 4 l) (2 * (136 * k + q))).length = (a1j (a5A 4 l) (2 * (136 * k))).length + cnB (b9f s k) q
 | 0, _ => rfl
 | q + 1, hq => by
  have e : shb l (136 * k + q) = (a7C (b9f s k) q : Int) := by
   unfold shb
   rw [ha, Nat.mul_comm 136 k]
   exact c9j h (by omega)
  show (a1j (a5A 4 l) (2 * (136 * k + q)) ++ a5A 4 l (2 * (136 * k + q)) ++ a5A 4 l (2 * (136 * k + q) + 1)).length = _
  rw [List.length_append, List.length_append, c6V h ha k q (by omega)]
  have g1 : (a5A 4 l (2 * (136 * k + q))).length = one (Nat.ble (Nat.succ (a7C (b9f s k) q % 16)) 9) := by
   unfold a5A
   refine d2d _ _ ?_
   unfold a8v
   rw [if_pos (by omega), show 2 * (136 * k + q) / 2 = 136 * k + q by omega, e]
   omega
  have g2 : (a5A 4 l (2 * (136 * k + q) + 1)).length = one (Nat.ble (Nat.succ (a7C (b9f s k) q / 16)) 9) := by
   unfold a5A
   refine d2d _ _ ?_
   unfold a8v
   rw [if_neg (by omega), show (2 * (136 * k + q) + 1) / 2 = 136 * k + q by omega, e]
   omega
  rw [g1, g2]
  show _ = _ + Nat.add (cnB (b9f s k) q) (d9c (b9f s k) q)
  unfold d9c
  rw [c0Y]
  show _ = _ + (cnB (b9f s k) q + (one (Nat.ble (Nat.succ (a7C (b9f s k) q % 16)) 9) + one (Nat.ble (Nat.succ (a7C (b9f s k) q / 16)) 9)))
  omega
def d9d (l : List Nat) : Bool := d7f 136 31 l fun s0 => c5H (a3x s0) fun s1 => Nat.ble 256 (Nat.add (cnB s0 136) (cnB s1 136))
theorem d6o {l : List Nat} (hl : b1b l) (h66 : l.length = 66) (h : d9d l = true) : (c8C 4 (cl l)).2 = 0 := by
 obtain ⟨s, hs, h1, h2⟩ := c6U (rate := 136) (e := 31) (by decide) hl fun s0 => c5H (a3x s0) fun s1 => Nat.ble 256 (Nat.add (cnB s0 136) (cnB s1 136))
 unfold d9d at h
 rw [h1, a9l] at h
 have e0 := c6V (l := cl l) hs h2 0 136 (Nat.le_refl _)
 have e1 := c6V (l := cl l) hs h2 1 136 (Nat.le_refl _)
 have hge : 256 ≤ (a1j (a5A 4 (cl l)) 544).length := by
  have h3 : 256 ≤ cnB s 136 + cnB (a3x s) 136 := Nat.le_of_ble_eq_true h
  have z0 : (a1j (a5A 4 (cl l)) (2 * (136 * 0))).length = 0 := rfl
  have n0 : b9f s 0 = s := rfl
  have n1 : b9f s 1 = a3x s := rfl
  rw [n0, z0, show 2 * (136 * 0 + 136) = 272 from rfl] at e0
  rw [n1, show 2 * (136 * 1) = 272 from rfl, show 2 * (136 * 1 + 136) = 544 from rfl] at e1
  omega
 have hf := (b07 (f := a5A 4 (cl l)) (t := 544) (u := 2048) (by decide) hge).1
 have hc : (cl l).length = 66 := by unfold cl; rw [List.length_map, h66]
 unfold c8C
 rw [if_neg (by rw [hc]; decide)]
 generalize a1j (a5A 4 (cl l)) 2048 = A at hf ⊢
 rw [if_neg (by omega)]
end Go.Ax.TryP
set_option linter.unusedVariables false
namespace Go.Ax.TryP
open Go.Proofs
def d4j : List Nat := [66, 75, 47, 38, 126, 88, 213, 179, 180, 77, 113, 172, 252, 106, 101, 107, 178, 105, 80, 213, 124, 97, 219, 28, 136, 11, 207, 161, 254, 171, 68, 63]
def d3k : List Nat := [205, 13, 174, 225, 147, 130, 67, 20, 202, 248, 238, 64, 99, 127, 27, 223, 106, 36, 224, 25, 229, 154, 132, 244, 159, 253, 148, 138, 173, 25, 127, 136, 153, 255, 104, 180, 192, 45, 238, 35, 54, 223, 95, 154, 77, 30, 61, 145, 90, 253, 16, 69, 137, 117, 255, 1, 217, 219, 248, 188, 188, 117, 181, 225]
theorem d7g : (d7f 136 31 (List.replicate 32 0 ++ [6, 5]) fun s => decide ((List.range 128).map (a7C s) = d4j ++ d3k ++ (List.range 32).map fun i => a7C s (96 + i))) = true := by decide +kernel
theorem d2K : ([0, 1, 2, 3, 4, 5].all fun r => [0, 1, 2, 3, 4].all fun c => d9e (d4j ++ [c, r])) = true := by decide +kernel
theorem d2J : ([0, 1, 2, 3, 4, 5, 6, 7, 8, 9, 10].all fun i => d9d (d3k ++ [i, 0])) = true := by decide +kernel
end Go.Ax.TryP
set_option linter.unusedVariables false
namespace Go.Ax.TryP
open Go.Proofs
theorem d2x {rate n : Nat} {s : List Nat} (hn : n ≤ rate) (hr : 0 < rate) : (List.range n).map (b2E rate (cl s)) = cl ((List.range n).map (a7C s)) := by
 unfold cl
 rw [List.map_map]
 refine List.map_congr_left fun i hi => ?_
 have h := List.mem_range.1 hi
 unfold b2E
 rw [Nat.div_eq_of_lt (by omega), Nat.mod_eq_of_lt (by omega)]
 exact c5p s i
def a01 : List Int := List.replicate 32 0
theorem d3p : ∃ t : List Nat, b00 a01 = cl (d4j ++ d3k ++ t) := by
 have e : a01 ++ [6, 5] = cl (List.replicate 32 0 ++ [6, 5]) := rfl
 obtain ⟨s, hs, h1, h2⟩ := c6U (rate := 136) (e := 31) (by decide) (l := List.replicate 32 0 ++ [6, 5]) (by unfold b1b; decide) fun s => decide ((List.range 128).map (a7C s) = d4j ++ d3k ++ (List.range 32).map fun i => a7C s (96 + i))
 have h := d7g
 rw [h1] at h
 have h3 := of_decide_eq_true h
 refine ⟨(List.range 32).map fun i => a7C s (96 + i), ?_⟩
 unfold b00 a3O a0d
 rw [e, show (31 : Int) = ((31 : Nat) : Int) from rfl, h2, d2x (by decide) (by decide), h3]
theorem c8H (a b : List Nat) : cl (a ++ b) = cl a ++ cl b := by unfold cl; rw [List.map_append]
theorem c9q : c2i a01 = cl d4j ∧ T6 (b00 a01) 32 64 = cl d3k := by
 obtain ⟨t, ht⟩ := d3p
 unfold c2i T6
 rw [ht, c8H, c8H]
 have h1 : (cl d4j).length = 32 := rfl
 have h2 : (cl d3k).length = 64 := rfl
 refine ⟨?_, ?_⟩
 ·rw [List.drop_zero, List.append_assoc, List.take_left' h1]
 ·rw [List.append_assoc, List.drop_left' h1, List.take_left' h2]
theorem c26 {a b : List Nat} (ha : b1b a) (hb : b1b b) : b1b (a ++ b) := fun z hz => (List.mem_append.1 hz).elim (ha z) (hb z)
theorem d2r : d7X a01 := by
 intro i hi
 have h0 := d2J
 rw [List.all_eq_true] at h0
 have h1 := h0 i (by simp; omega)
 have h2 := d6o (l := d3k ++ [i, 0]) (c26 (by unfold b1b; decide) (fun z hz => by simp at hz; omega)) rfl h1
 unfold b2s
 rw [c9q.2, show cl d3k ++ c9E (i : Int) = cl (d3k ++ [i, 0]) by
  rw [c8H]
  refine congrArg (cl d3k ++ ·) ?_
  show [(i : Int) % 256, (i : Int) / 256 % 256] = [(i : Int), ((0 : Nat) : Int)]
  rw [show (i : Int) % 256 = i by omega, show (i : Int) / 256 % 256 = ((0 : Nat) : Int) by omega]]
 exact h2
theorem d0r : a4N (c2i a01) := by
 intro r hr c hc
 have h0 := d2K
 rw [List.all_eq_true] at h0
 have h1 := h0 r (by simp; omega)
 rw [List.all_eq_true] at h1
 have h2 := d6p (l := d4j ++ [c, r]) (c26 (by unfold b1b; decide) (fun z hz => by simp at hz; omega)) rfl (h1 c (by simp; omega))
 unfold c4Z
 rw [c9q.1, show cl d4j ++ [(c : Int), (r : Int)] = cl (d4j ++ [c, r]) by rw [c8H]; rfl]
 exact h2
theorem d5i (xi : List Int) : (skD xi).length = 4032 ∧ bytes (skD xi) := by
 unfold skD
 refine ⟨by rw [List.length_append, d2Q, d6R], J7 (J7 ?_ (a8d (fun i => b2d 4 _) 11)) (a8d (fun i => b2d 13 _) 6)⟩
 unfold skH
 exact J7 (J7 (a6H xi).2 (D3 (c8r xi) _ _)) (a7x _ _)
theorem d19 : d3f a01 = (pkD a01, skD a01, 0) := by
 unfold d3f
 exact a3U ⟨d2r, d0r⟩ _ _
theorem d63 : ¬ d7a (List.replicate 3309 0) := by
 intro h
 have h0 := h 0 (by omega)
 have h1 := d47 (d2l (a := zV (List.replicate 3309 0) 0) (m := 524091) (by omega) (by omega) (i := 0) (by omega))
 have hb : ∀ t, b7f (T6 (List.replicate 3309 0) (48 + 640 * 0) 640) t = 0 := fun t => by
  unfold b7f T6
  rw [List.drop_replicate, List.take_replicate, List.getD_eq_getElem?_getD, List.getElem?_replicate]
  split
  ·unfold c66; rw [Option.getD_some]; simp
  ·unfold c66; rw [Option.getD_none]; simp
 have e : (zV (List.replicate 3309 0) 0).getD 0 0 = 524288 := by
  unfold zV a2h
  rw [i9 (by omega)]
  simp only [hb]
  decide
 rw [e] at h1
 unfold c2m at h1
 omega
theorem d4E : d5n (pkD a01) [] [] (List.replicate 3309 0) = 70 := by
 unfold d5n
 rw [if_neg (fun h => h (c9k _).1), if_neg (by decide), if_neg (fun h => h (by rw [List.length_replicate])), a3U d63]
theorem d49 : ([] : List Int).length ≤ maxLen ∧ bytes [] := ⟨mB (by simp), fun z hz => by simp at hz⟩
theorem c6o : ∀ x r, T9 x = some r → ∃ N, a40 N x = some r := by
 refine d9 (ks := a6B) (rs := a6C) fun x hw hq => ⟨0, ?_⟩
 have hp := c9k a01
 have hs := d5i a01
 have e1 : a2G (List.replicate 32 0, ()) = some (d3f a01) := c5e (xi := a01) ⟨rfl, fun z hz => by rw [List.eq_of_mem_replicate hz]; omega⟩
 have hv : (List.replicate 3309 (0 : Int)).length ≤ maxLen ∧ bytes (List.replicate 3309 (0 : Int)) := ⟨mB (by rw [List.length_replicate]; omega), fun z hz => by rw [List.eq_of_mem_replicate hz]; omega⟩
 have e2 := c0s (pk := pkD a01) (msg := []) (ctx := []) ⟨mB (by rw [hp.1]; omega), hp.2⟩ d49 d49 hv
 rw [d4E] at e2
 have e3 : a0x ([], [], [], [], ()) = some 161 := c0s d49 d49 d49 d49
 rw [d19] at e1
 show a40 0 x = some true
 unfold a40
 generalize List.replicate 3309 (0 : Int) = sg at e2 ⊢
 generalize pkD a01 = pk at e1 e2 hp
 generalize skD a01 = sk at e1 hs
 rw [e1, Option.bind_some]
 dsimp only
 rw [if_pos rfl, if_pos (by rw [hp.1]; rfl), if_pos (by rw [hs.1]; rfl), if_pos (by decide), if_pos rfl, if_pos (by decide), e2, Option.bind_some, if_pos rfl, e3, Option.bind_some]
 rfl
theorem c7X : ∀ x r, a9m x = some r → ∃ N, a6A N x = some r := by
 refine d9 (ks := a1T) (rs := a73) fun x hw hq => ⟨x.1.length + 1, ?_⟩
 obtain ⟨(l : List (List Int)), u⟩ := x
 have hl : l.length ≤ maxLen ∧ ∀ zs ∈ l, zs.length ≤ maxLen ∧ _ := hw.1
 have hm : maxLen ≤ 9223372036854775807 := by unfold maxLen; omega
 show a6A (l.length + 1) (l, u) = some (decide (∀ b ∈ l, b.length ≤ 6000))
 unfold a6A
 dsimp only
 generalize hN : l.length + 1 = N
 have h := fun K : _ → Option Bool => c03 (F := N1 N) (K := K) (fun i => (l, ((l.length : Nat) : Int), (i : Int), ())) (fun i => (l.getD i []).length ≤ 6000) (.inl (false, ())) (.inr ()) l.length
  (fun i hi kn => by
   constructor
   ·intro hc
    unfold N1
    dsimp only
    rw [if_pos (by omega), if_pos (by omega), if_pos (by omega), Int.toNat_natCast, if_neg (by omega), c7 (by omega) (by omega)]
    rfl
   ·intro hc
    unfold N1
    dsimp only
    rw [if_pos (by omega), if_pos (by omega), if_pos (by omega), Int.toNat_natCast, if_pos (by omega)])
  (fun kn => by
   unfold N1
   dsimp only
   rw [if_neg (by omega)]) l.length 0 N (by omega) (by omega)
 have hiff : (∀ k, 0 ≤ k → k < l.length → (l.getD k []).length ≤ 6000) ↔ ∀ b ∈ l, b.length ≤ 6000 := by
  constructor
  ·intro h b hb
   obtain ⟨i, hi, rfl⟩ := List.mem_iff_getElem.1 hb
   have := h i (Nat.zero_le _) hi
   rwa [List.getD_eq_getElem?_getD, List.getElem?_eq_getElem hi, Option.getD_some] at this
  ·intro h k _ hk
   rw [List.getD_eq_getElem?_getD, List.getElem?_eq_getElem hk, Option.getD_some]
   exact h _ (List.getElem_mem hk)
 by_cases hc : ∀ b ∈ l, b.length ≤ 6000
 ·rw [decide_eq_true hc]
  exact (h _).1 (hiff.2 hc)
 ·rw [decide_eq_false hc]
  exact (h _).2 (fun hh => hc (hiff.1 hh))
end Go.Ax.TryP
set_option linter.unusedVariables false
namespace Go.Ax.TryP
open Go.Proofs
noncomputable def a8t : List Int × List Int × List Int × Int × Int × Unit → Option Bool := a0l (ks := [.xs (.int .u8) 32, .xs (.int .u8) 32, .sl (.int .u8), .int .u8, .int .u8]) (rs := [.bool]) (fun _ => True) fun _ => true
end Go.Ax.TryP
set_option linter.unusedVariables false
namespace Go.Ax.TryP
open Go.Proofs
noncomputable abbrev b05 : Sig := ⟨[], [.bool], T9⟩
noncomputable abbrev b3T : Sig := ⟨[.sls b8], [.bool], a9m⟩
noncomputable abbrev b67 : Sig := ⟨[.fsl b8, .sl b8, .sl b8, .xs b8 32, .int .i64], [.sl b8, .int .i64], b2y⟩
noncomputable def p_law16_DsaStrict_E : AE := AE.of [(3, ty3), (5, ty5), (22, ty22), (23, ty23), (35, ty35)] [(8, a4D), (6, b05), (7, b3T), (9, b67), (10, a4E)]
noncomputable def b4Y : Hints := [(3000000, [10])]
noncomputable def b4Z : Code := (Try.f4).body.getD .skip
abbrev R3 : List Kd := [.xs b8 32, .xs b8 32, .sl b8, .int .u8, .int .u8]
abbrev a5w : List Kd := [.bool]
noncomputable def T1 (N : Nat) (x : List Int × List Int × List Int × Int × Int × Unit) : Option (Bool) :=
 (a2G (x.1, ())).bind fun r1 => (
 (T9 (())).bind fun r2 => (
 if (¬ (r2 = true)) then
  (T9 (())).bind fun r3 => (
  some (decide (r3 = true)))
 else
  if (r1.2.2 ≠ (0:Int)) then
   (T9 (())).bind fun r4 => (
   some (decide (r4 = true)))
  else
   (a9m ([x.2.2.1], ())).bind fun r5 => (
   if (¬ (r5 = true)) then
    (T9 (())).bind fun r6 => (
    some (decide (r6 = true)))
   else
    (b2y (r1.2.1, x.2.2.1, [], x.2.1, (30:Int), ())).bind fun r7 => (
    if (r7.2 ≠ (0:Int)) then
     some (decide ((((List.length r7.1) : Nat) : Int) = (0:Int)))
    else
     if ((((List.length r7.1) : Nat) : Int) ≠ (3309:Int)) then
      some (decide ((((List.length r7.1) : Nat) : Int) = (0:Int)))
     else
      if 0 ≤ (3308:Int) then (
      if (3308:Int) < (((List.length r7.1) : Nat) : Int) then (
      if 3308 < (List.length r7.1) then (
      if ((IntKind.i64.wrap (List.getD r7.1 3308 0)) ≥ (55:Int)) then
       some (decide ((IntKind.i64.wrap (List.getD r7.1 3308 0)) ≤ (55:Int)))
      else
       if (x.2.2.2.2.1 = (0:Int)) then
        some (decide ((IntKind.i64.wrap (List.getD r7.1 3308 0)) ≤ (55:Int)))
       else
        if (IntKind.i64.wrap ((55:Int) - (IntKind.i64.wrap (List.getD r7.1 3308 0)))) = 0 then none else (
        if 0 ≤ (IntKind.i64.wrap ((IntKind.i64.wrap ((3248:Int) + (IntKind.i64.wrap (List.getD r7.1 3308 0)))) + (Int.tmod (IntKind.i64.wrap x.2.2.2.1) (IntKind.i64.wrap ((55:Int) - (IntKind.i64.wrap (List.getD r7.1 3308 0))))))) then (
        if (IntKind.i64.wrap ((IntKind.i64.wrap ((3248:Int) + (IntKind.i64.wrap (List.getD r7.1 3308 0)))) + (Int.tmod (IntKind.i64.wrap x.2.2.2.1) (IntKind.i64.wrap ((55:Int) - (IntKind.i64.wrap (List.getD r7.1 3308 0))))))) < (((List.length r7.1) : Nat) : Int) then (
        if ((IntKind.i64.wrap ((IntKind.i64.wrap ((3248:Int) + (IntKind.i64.wrap (List.getD r7.1 3308 0)))) + (Int.tmod (IntKind.i64.wrap x.2.2.2.1) (IntKind.i64.wrap ((55:Int) - (IntKind.i64.wrap (List.getD r7.1 3308 0))))))).toNat) < (List.length r7.1) then (
        if 0 ≤ (IntKind.i64.wrap ((IntKind.i64.wrap ((3248:Int) + (IntKind.i64.wrap (List.getD r7.1 3308 0)))) + (Int.tmod (IntKind.i64.wrap x.2.2.2.1) (IntKind.i64.wrap ((55:Int) - (IntKind.i64.wrap (List.getD r7.1 3308 0))))))) then (
        if (IntKind.i64.wrap ((IntKind.i64.wrap ((3248:Int) + (IntKind.i64.wrap (List.getD r7.1 3308 0)))) + (Int.tmod (IntKind.i64.wrap x.2.2.2.1) (IntKind.i64.wrap ((55:Int) - (IntKind.i64.wrap (List.getD r7.1 3308 0))))))) < (((List.length r7.1) : Nat) : Int) then (
        if ((IntKind.i64.wrap ((IntKind.i64.wrap ((3248:Int) + (IntKind.i64.wrap (List.getD r7.1 3308 0)))) + (Int.tmod (IntKind.i64.wrap x.2.2.2.1) (IntKind.i64.wrap ((55:Int) - (IntKind.i64.wrap (List.getD r7.1 3308 0))))))).toNat) < (List.length r7.1) then (
        (a0x (r1.1, x.2.2.1, [], (List.set r7.1 ((IntKind.i64.wrap ((IntKind.i64.wrap ((3248:Int) + (IntKind.i64.wrap (List.getD r7.1 3308 0)))) + (Int.tmod (IntKind.i64.wrap x.2.2.2.1) (IntKind.i64.wrap ((55:Int) - (IntKind.i64.wrap (List.getD r7.1 3308 0))))))).toNat) (b9d IntKind.u8 (List.getD r7.1 ((IntKind.i64.wrap ((IntKind.i64.wrap ((3248:Int) + (IntKind.i64.wrap (List.getD r7.1 3308 0)))) + (Int.tmod (IntKind.i64.wrap x.2.2.2.1) (IntKind.i64.wrap ((55:Int) - (IntKind.i64.wrap (List.getD r7.1 3308 0))))))).toNat) 0) x.2.2.2.2.1)), ())).bind fun r8 => (
        some (decide (r8 = (70:Int))))) else none) else none) else none) else none) else none) else none)) else none) else none) else none))))
theorem b2c (e0 : c8 Try.prog 8 a4D) (e1 : c8 Try.prog 6 b05) (e2 : c8 Try.prog 7 b3T) (e3 : c8 Try.prog 9 b67) (e4 : c8 Try.prog 10 a4E) : p_law16_DsaStrict_E.Ok Try.prog := AE.of_ok (all_cons a5x (all_cons Z1 (all_cons c4R (all_cons F8 (all_cons a2C c6))))) (all_cons ⟨e0, a8n⟩ (all_cons ⟨e1, b7n⟩ (all_cons ⟨e2, b9a⟩ (all_cons ⟨e3, c0O⟩ (all_cons ⟨e4, a8o⟩ c6)))))
theorem b3v (hE : p_law16_DsaStrict_E.Ok Try.prog) {g : Ds R3 → Option (Rs [.bool])} (hg : ∀ x r, g x = some r → ∃ N, T1 N x = some r) : c8 Try.prog 4 ⟨R3, [.bool], g⟩ :=
 i5 (E := p_law16_DsaStrict_E) (H := b4Y) (L := fun N => LT.nil) (c := b4Z) (ks := R3) (rs := a5w) (F := T1) hE mix Try.func4 (by kernel_rfl) (fun N => OkAll.nil) (fun _ _ => by kernel_rfl) hg
end Go.Ax.TryP
set_option linter.unusedVariables false
namespace Go.Ax.TryP
open Go.Proofs
theorem d4L (l : List Int) : ∀ n, bytes (a7A l n)
 | 0 => fun z hz => by simp [a7A, b3U] at hz
 | n + 1 => by
  show bytes (a7A l n ++ d5d l n)
  exact J7 (d4L l n) fun z hz => by have := (d6E l n).2 z hz; omega
theorem d6w (c w e l : List Int) : bytes (b40 (hrow c w e l) 55).1 := by
 have h6 : (hrow c w e l).length / 256 = 6 := by rw [c0b c w e l]
 unfold b40
 rw [h6]
 split
 ·exact fun z hz => by simp at hz
 ·split
  ·exact fun z hz => by simp at hz
  ·rename_i h1 h2
   refine J7 (J7 (d4L _ _) fun z hz => by rw [List.eq_of_mem_replicate hz]; omega) fun z hz => ?_
   obtain ⟨k, hk, rfl⟩ := List.mem_map.1 hz
   have hk := List.mem_range.1 hk
   have hle : (a7A (hrow c w e l) (k + 1)).length ≤ (a7A (hrow c w e l) 6).length := c6W _ (by omega)
   unfold d41
   omega
theorem d9S {ct : List Int} (h : bytes ct) (c s y : List Int) (n : Nat) : bytes (zT ct c s y n) := J7 h (a8d (fun i => b2d 20 _) n)
theorem d8h {ct : List Int} (h : bytes ct) (c s e l y w : List Int) : bytes (d4q ct c s e l y w) := J7 (d9S h c s y 5) (d6w c w e l)
theorem d4r {ct c s e l y w : List Int} (h : ct.length = 48) (ho : c2q c s e l y w) : (d4q ct c s e l y w).length = 3309 := by
 unfold d4q
 rw [List.length_append, d5q h, (c4r ho.2.2).2]
theorem c6z (t : Nat → Bool × Int × (List Int × Bool)) : ∀ n k, ((d4o t k n).1 = [] ∧ ((d4o t k n).2 = 162 ∨ ∃ j, j < k + n ∧ (t j).1 = true ∧ (d4o t k n).2 = (t j).2.1)) ∨ ∃ j, j < k + n ∧ (t j).1 = false ∧ (t j).2.2.2 = true ∧ d4o t k n = ((t j).2.2.1, 0)
 | 0, k => .inl ⟨rfl, .inl rfl⟩
 | n + 1, k => by
  unfold d4o
  by_cases h : (t k).1 = true
  ·rw [if_pos h]
   exact .inl ⟨rfl, .inr ⟨k, by omega, h, rfl⟩⟩
  ·rw [if_neg h]
   by_cases h2 : (t k).2.2.2 = true
   ·rw [if_pos h2]
    exact .inr ⟨k, by omega, by simpa using h, h2, rfl⟩
   ·rw [if_neg h2]
    have ih := c6z t n (k + 1)
    rw [show k + 1 + n = k + (n + 1) by omega] at ih
    exact ih
def yK (sk msg ctx rnd : List Int) (k : Nat) : List Int := N2 (yD (d3j sk rnd (muS sk msg ctx)) k) 5
def wK (sk msg ctx rnd : List Int) (k : Nat) : List Int := b0t (c08 (T6 sk 0 32)) (yK sk msg ctx rnd k)
def ctK (sk msg ctx rnd : List Int) (k : Nat) : List Int := c2l (muS sk msg ctx) (hiD (wK sk msg ctx rnd k))
theorem d4U : ∃ f : List Int → List Int, ∀ ct, f ct = (a47 49 ct).1 := ⟨fun ct => (a47 49 ct).1, fun ct => Eq.refl _⟩
noncomputable def blF : List Int → List Int := Classical.choose d4U
theorem d7m (ct : List Int) : blF ct = (a47 49 ct).1 := Classical.choose_spec d4U ct
theorem d4T : ∃ f : List Int → Int, ∀ ct, f ct = (a47 49 ct).2 := ⟨fun ct => (a47 49 ct).2, fun ct => Eq.refl _⟩
noncomputable def blE : List Int → Int := Classical.choose d4T
theorem d4S (ct : List Int) : blE ct = (a47 49 ct).2 := Classical.choose_spec d4T ct
theorem d8R (ct : List Int) : blE ct = 0 ∨ blE ct = 130 := by rw [d4S]; exact d5I ct
noncomputable def cK (sk msg ctx rnd : List Int) (k : Nat) : List Int := blF (ctK sk msg ctx rnd k)
def sE (sk : List Int) : List Int := N2 (skP sk) 5
def eE (sk : List Int) : List Int := N2 (fun i => skP sk (5 + i)) 6
def lE (sk : List Int) : List Int := N2 (skL sk) 6
def okK (sk msg ctx rnd : List Int) (k : Nat) : Prop := c2q (cK sk msg ctx rnd k) (sE sk) (eE sk) (lE sk) (yK sk msg ctx rnd k) (wK sk msg ctx rnd k)
noncomputable def d5g (sk msg ctx rnd : List Int) (k : Nat) : List Int := d4q (ctK sk msg ctx rnd k) (cK sk msg ctx rnd k) (sE sk) (eE sk) (lE sk) (yK sk msg ctx rnd k) (wK sk msg ctx rnd k)
theorem d6S {a1 a2 a3 s e l : List Int} {u : Unit} (ct : List Int) (b : List Int × Int) (y w : List Int) : d8L (a1, a2, a3, s, e, l, u) ct b y w = (decide (b.2 ≠ 0), b.2, cif (c2q b.1 s e l y w) (d4q ct b.1 s e l y w, true) ([], false)) := rfl
theorem d23 (sk msg ctx rnd : List Int) (k : Nat) : d8r sk msg ctx rnd k = (decide (blE (ctK sk msg ctx rnd k) ≠ 0), blE (ctK sk msg ctx rnd k), cif (okK sk msg ctx rnd k) (d5g sk msg ctx rnd k, true) ([], false)) := by
 have e2 : wD (c08 (T6 sk 0 32)) (d3j sk rnd (muS sk msg ctx)) k = wK sk msg ctx rnd k := by
  unfold wD wK yK
  exact Eq.refl _
 have e1 : ctD (c08 (T6 sk 0 32)) (muS sk msg ctx) (d3j sk rnd (muS sk msg ctx)) k = ctK sk msg ctx rnd k := by
  unfold ctD ctK
  rw [e2]
 have e3 : N2 (yD (d3j sk rnd (muS sk msg ctx)) k) 5 = yK sk msg ctx rnd k := by
  unfold yK
  exact Eq.refl _
 unfold d8r
 rw [d24, e1, e2, e3]
 have e4 : d0Y sk = (T6 sk 0 32, T6 sk 32 32, T6 sk 64 64, sE sk, eE sk, lE sk, ()) := by
  unfold d0Y sE eE lE
  exact Eq.refl _
 have e5 : okK sk msg ctx rnd k = c2q (cK sk msg ctx rnd k) (sE sk) (eE sk) (lE sk) (yK sk msg ctx rnd k) (wK sk msg ctx rnd k) := by unfold okK; exact Eq.refl _
 have e6 : d5g sk msg ctx rnd k = d4q (ctK sk msg ctx rnd k) (cK sk msg ctx rnd k) (sE sk) (eE sk) (lE sk) (yK sk msg ctx rnd k) (wK sk msg ctx rnd k) := by unfold d5g; exact Eq.refl _
 have e7 : cK sk msg ctx rnd k = (a47 49 (ctK sk msg ctx rnd k)).1 := d7m _
 rw [e4, e5, e6, e7, d4S]
 generalize a47 49 (ctK sk msg ctx rnd k) = b
 generalize wK sk msg ctx rnd k = w
 generalize yK sk msg ctx rnd k = y
 generalize ctK sk msg ctx rnd k = ct
 generalize sE sk = s
 generalize eE sk = e
 generalize lE sk = l
 exact d6S ..
theorem d2O (sk msg ctx rnd : List Int) (most : Int) : ((c4E sk msg ctx rnd most).1 = [] ∧ (c4E sk msg ctx rnd most).2 ≠ 0 ∧ (d3g sk → ((c4E sk msg ctx rnd most).2 = 3 ↔ 255 < ctx.length))) ∨
  ∃ j, d3g sk ∧ ctx.length ≤ 255 ∧ a4N (T6 sk 0 32) ∧ blE (ctK sk msg ctx rnd j) = 0 ∧ okK sk msg ctx rnd j ∧ c4E sk msg ctx rnd most = (d5g sk msg ctx rnd j, 0) := by
 unfold c4E
 by_cases h1 : d3g sk
 ·rw [a2q (fun h => h h1)]
  by_cases h2 : 255 < ctx.length
  ·rw [if_pos h2]
   exact .inl ⟨rfl, by decide, fun _ => ⟨fun _ => h2, fun _ => rfl⟩⟩
  ·rw [if_neg h2]
   by_cases h3 : most < 1
   ·rw [if_pos h3]
    exact .inl ⟨rfl, by decide, fun _ => ⟨fun h => absurd h (by decide), fun h => absurd h h2⟩⟩
   ·rw [if_neg h3]
    by_cases h4 : a4N (T6 sk 0 32)
    ·rw [a2q (fun h => h h4)]
     rcases c6z (d8r sk msg ctx rnd) most.toNat 0 with ⟨e1, e2⟩ | ⟨j, _, e1, e2, e3⟩
     ·refine .inl ⟨e1, ?_⟩
      rcases e2 with e2 | ⟨j, _, g1, g2⟩
      ·rw [e2]
       exact ⟨by decide, fun _ => ⟨fun h => absurd h (by decide), fun h => absurd h h2⟩⟩
      ·rw [d23] at g1 g2
       have g1 := of_decide_eq_true g1
       have g3 := (d8R (ctK sk msg ctx rnd j)).resolve_left g1
       dsimp only at g2
       rw [g2, g3]
       exact ⟨by decide, fun _ => ⟨fun h => absurd h (by decide), fun h => absurd h h2⟩⟩
     ·rw [d23] at e1 e2 e3
      dsimp only at e1 e2 e3
      by_cases h5 : okK sk msg ctx rnd j
      ·rw [a3U h5] at e3
       refine .inr ⟨j, h1, by omega, h4, ?_, h5, e3⟩
       have := of_decide_eq_false e1
       exact Classical.not_not.1 this
      ·rw [a2q h5] at e2
       cases e2
    ·rw [a3U h4]
     exact .inl ⟨rfl, by decide, fun _ => ⟨fun h => absurd h (by decide), fun h => absurd h h2⟩⟩
 ·rw [a3U h1]
  exact .inl ⟨rfl, by decide, fun h => absurd h h1⟩
theorem d1y (sk msg ctx rnd : List Int) (k : Nat) : (ctK sk msg ctx rnd k).length = 48 ∧ bytes (ctK sk msg ctx rnd k) := ⟨c0z _ _, c69 _ _⟩
theorem d8g {sk msg ctx rnd : List Int} {k : Nat} (h : okK sk msg ctx rnd k) : (d5g sk msg ctx rnd k).length = 3309 ∧ bytes (d5g sk msg ctx rnd k) := ⟨d4r (d1y _ _ _ _ _).1 h, d8h (d1y _ _ _ _ _).2 _ _ _ _ _ _⟩
end Go.Ax.TryP
set_option linter.unusedVariables false
namespace Go.Ax.TryP
open Go.Proofs
theorem d5D : T9 () = some true := d8 (ks := a6B) (rs := a6C) (x := ()) trivial trivial
theorem d7k {l : List (List Int)} (hl : c6y l) : a9m (l, ()) = some (decide (∀ b ∈ l, b.length ≤ 6000)) :=
 d8 (ks := a1T) (rs := a73) (x := (l, ())) ⟨d29.2 hl, trivial⟩ trivial
theorem d0h (xi : List Int) : (d7X xi ∧ a4N (c2i xi)) ∧ d3f xi = (pkD xi, skD xi, 0) ∨ d3f xi = ([], [], 130) := by
 unfold d3f
 by_cases h : d7X xi ∧ a4N (c2i xi)
 ·rw [a3U h]; exact .inl ⟨h, rfl⟩
 ·rw [a2q h]; exact .inr rfl
end Go.Ax.TryP
namespace Go.Ax.TryP
open Go.Proofs
theorem b80 : c8 Try.prog 62 a4F := c1H (b9L) c6n
theorem b5d : c8 Try.prog 75 a2o := b0Z (a9V) b46
theorem b92 : c8 Try.prog 76 a46 := b4W (b3t) b9V
theorem b6S : c8 Try.prog 77 a2U := b1V (b0Y) b6L
theorem b48 : c8 Try.prog 79 a2j := b0B (a9u) b42
theorem c20 : c8 Try.prog 78 a7z := b8c (b6u b48) c2V
theorem b0r : c8 Try.prog 74 X2 := b4L (b3g b92 b6S c20) b9U
theorem b2q : c8 Try.prog 73 a0q := a8X (a72 b5d b0r) b2f
theorem b0s : c8 Try.prog 70 X3 := b4X (b3u b2q) b9W
theorem a83 : c8 Try.prog 63 R5 := b3h (b1R b0s) b8l
theorem b8u : c8 Try.prog 71 a3S := b3k (b1U) b8o
theorem b2p : c8 Try.prog 72 a0p := a8W (a71 b0r) b2e
theorem a84 : c8 Try.prog 64 R6 := b3j (b1T b8u b80 b2p) b8n
theorem b8t : c8 Try.prog 65 a3R := b3i (b1S b0s) b8m
theorem a4y : c8 Try.prog 42 E1 := b8b (b6t b80 a83 a84 b8t) c2U
theorem a82 : c8 Try.prog 13 R4 := c4j (c2D a4y) d0w
theorem c6E : c8 Try.prog 17 b04 := c56 (c4q) d2A
theorem a7w : c8 Try.prog 16 N4 := c1K (b9O) c6p
theorem c6D : c8 Try.prog 44 b03 := c1u (b9w) c6h
theorem J1 : c8 Try.prog 45 i7 := b9v (b7V) c4v
theorem b6R : c8 Try.prog 15 a2T := b1E (b0K a4y c6D J1) b6I
theorem b90 : c8 Try.prog 66 a44 := b4l (b2V J1) b9S
theorem a5P : c8 Try.prog 57 I8 := a39 (a3A b90) a5O
theorem a4x : c8 Try.prog 47 E0 := b7Q (b55 a5P) c2Q
theorem a3y : c8 Try.prog 60 A3 := b9A (b71 J1) c4x
theorem c13 : c8 Try.prog 69 a5X := b5P (b4d) c1Q
theorem b3N : c8 Try.prog 59 a1x := b70 (b6e a3y c13) c2T
theorem b5a : c8 Try.prog 32 a2l := c2w (c1p a4x b3N a3y J1) c7T
theorem a79 : c8 Try.prog 38 P8 := b7I (b5W a3y) c2P
theorem a94 : c8 Try.prog 21 U3 := c2r (c1h J1) c7Q
theorem a6L : c8 Try.prog 34 J6 := b0P (a9M b5a a79 a94) b45
theorem c4C : c8 Try.prog 61 a9a := b9k (b7C a3y) c4u
theorem a8a : c8 Try.prog 57 P9 := a5J (a5j c4C) a76
theorem b49 : c8 Try.prog 36 a2k := c2s (c1l a4x b3N J1 a3y a8a) c7R
theorem a7v : c8 Try.prog 19 N3 := b1L (b0Q a6L b49) b6K
theorem b8W : c8 Try.prog 48 a4B := c1v (b9x) c6i
theorem b5b : c8 Try.prog 20 a2m := b0J (a9G a4x b8W) b43
theorem b8X : c8 Try.prog 49 a4C := c1w (b9y) c6j
theorem b8V : c8 Try.prog 23 a4A := c1q (b9r a4x b8X) c6g
theorem c16 : c8 Try.prog 67 a50 := b6a (b4q J1) c1S
theorem a6K : c8 Try.prog 57 J5 := a4T (a4a c16) a6G
theorem b3L : c8 Try.prog 50 a1v := b7B (b5T a6K) c2O
theorem b0q : c8 Try.prog 24 X1 := b4k (b2T b3L b8X) b9R
theorem c2Z : c8 Try.prog 46 a7y := b7R (b56 a83 a84) c2R
theorem d0E : XOk Try.prog 14 b68 := c4m (c2F) d0x
theorem b2o : XOk Try.prog 18 a0o := c1D (b9E a7w c2Z d0E) c6m
theorem b8Y : c8 Try.prog 8 a4D := c1B (b9B a82 c6E a7w b6R a7v a94 b5b b8V b0q b2o) c6k
theorem c17 : c8 Try.prog 26 a51 := c2E (c1E a82) c7V
theorem b3M : c8 Try.prog 35 a1w := b7U (b58) c2S
theorem b3y : c8 Try.prog 58 a1p := a9K (a8I) b3w
theorem a3D : c8 Try.prog 57 B4 := a2z (a1L b3y) a3C
theorem a0k : c8 Try.prog 29 o4 := b1F (b0N b3M a3D) b6J
theorem b2m : c8 Try.prog 30 a0m := c1o (b9o b3L) c6f
theorem b5c : c8 Try.prog 31 a2n := b0O (a9L) b44
theorem b8U : c8 Try.prog 33 a4z := c1i (b9h a4y) c6d
theorem c14 : c8 Try.prog 37 a5Y := c2x (c1r J1) c7U
theorem c4D : c8 Try.prog 68 a9b := b9z (b7Z J1 b8W) c4w
theorem a4g : c8 Try.prog 53 D2 := b2P (b1A c4D) b8j
theorem c15 : c8 Try.prog 39 a5Z := b59 (b4p a4g) c1R
theorem b2n : c8 Try.prog 41 a0n := b6o (b4J a7w b8V a82) c1T
theorem c6G : c8 Try.prog 40 b06 := c1L (b9P) c6q
theorem b8Z : c8 Try.prog 10 a4E := c1C (b9D a82 c17 a0k b2m b5c b8U b5a a6L b3M a79 c14 b49 c15 b2n c6G b2o) c6l
theorem c6F : c8 Try.prog 6 b05 := c1J (b9N b8Y b8Z) c6o
theorem c75 : c8 Try.prog 7 b3T := c2K (c1I) c7X
theorem c74 : XOk Try.prog 51 b3S := c2H (c1G a0k b2m) c7W
theorem d0F : XOk Try.prog 25 b69 := c4n (c2G a0k c74) d0y
theorem c6C : c8 Try.prog 52 b02 := c1m (b9n a4y a0k) c6e
theorem c73 : c8 Try.prog 54 b3R := c2v (c1n b5a a79 b49) c7S
theorem b9Z : c8 Try.prog 55 a43 := b4i (b2Q a4g a94) b9Q
theorem b8s : c8 Try.prog 56 a3Q := b2U (b1D) b8k
theorem b91 : XOk Try.prog 27 a45 := b4K (b3f c6E a7w c6C a7v a4g b2n b8U c73 a94 b2m b0q c14 b9Z b8s) b9T
theorem d0D : c8 Try.prog 9 b67 := c4i (c2C c17 a82 d0F b2o b91) d0v
end Go.Ax.TryP
