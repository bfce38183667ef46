/- A part of the proof: DgQ9, DgQ10, DgK, DgK2, DgK3, DgK4, DgQ11, DgS2, DgP2, DgQ12, DgQ13, DgW1. -/
import Derived.Test.YtbcjbgjidddnaaaDsaE
set_option linter.unusedVariables false
namespace Go.Ax.TryP
open Go.Proofs
theorem d5I {b : List Int} (hb : b.length ≤ maxLen ∧ bytes b) : G0 (4, b, ()) = some (c8O 4 b) :=
 d8 (ks := E8) (rs := E9) (x := (4, b, ())) ⟨d08 (d := 4) (by omega), M8.2 hb, trivial⟩ trivial
def smN (z : Int) : Prop := (0 ≤ z ∧ z < 8380417) ∧ -4 ≤ c2r z ∧ c2r z ≤ 4
theorem d4F : smN 0 := ⟨by omega, by unfold c2r; omega⟩
theorem d5W (s : List Int) (t : Nat) : ∀ z ∈ a5A 4 s t, smN z := by
 intro z hz
 unfold a5A d5z at hz
 rw [if_neg (by decide)] at hz
 split at hz
 ·rename_i h
  rw [List.mem_singleton] at hz
  have := d18 s t
  subst hz
  refine ⟨by omega, ?_⟩
  unfold c2r
  split <;> omega
 ·simp at hz
theorem c3P (s : List Int) : (c8O 4 s).1.length = 256 ∧ ∀ z ∈ (c8O 4 s).1, smN z := by
 have hz : z256.length = 256 ∧ ∀ z ∈ z256, smN z := ⟨c45.1, fun z hz => by rw [List.eq_of_mem_replicate hz]; exact d4F⟩
 unfold c8O
 split
 ·exact hz
 ·split
  ·exact hz
  ·rename_i h
   have ha := c69 (d5W s) 2048
   generalize a1k (a5A 4 s) 2048 = A at h ha
   refine ⟨?_, fun z hz => ha z (List.mem_of_mem_take hz)⟩
   show (A.take 256).length = 256
   rw [List.length_take, Nat.min_eq_left (by omega)]
theorem d7D (s : List Int) : E6 256 (c8O 4 s).1 := ⟨(c3P s).1, fun z hz => by have := ((c3P s).2 z hz).1; omega⟩
theorem d7C {s : List Int} (h : s.length = 66) : (c8O 4 s).2 = 0 ∨ (c8O 4 s).2 = 130 := by
 unfold c8O
 rw [if_neg (by rw [h]; decide)]
 split
 ·exact .inr rfl
 ·exact .inl rfl
theorem d6Z {a : List Int} (hl : a.length = 256) (h : ∀ z ∈ a, smN z) : a1t a ≤ 4 := (c9r (by omega)).2 fun i hi => by
 have := (h _ (a5E (a := a) (i := i) (by omega))).2
 unfold d2a
 split <;> omega
theorem d48 (s : List Int) : inW 4 (a33 4 (c8O 4 s).1) := c5X (m := 4) (by omega) (d6Z (c3P s).1 (c3P s).2) (by omega) (by decide)
theorem c0d (xi : List Int) : (b04 xi).length = 128 := a1j _ _
theorem c8D (xi : List Int) : bytes (b04 xi) := a7A _ _
theorem b8E (xi : List Int) (i : Nat) : E6 256 (b2x xi i).1 := d7D _
theorem d8x (xi : List Int) : (X5 (b04 xi) 32 64).length = 64 ∧ bytes (X5 (b04 xi) 32 64) := ⟨U1 (by rw [c0d]; omega), D3 (c8D xi) _ _⟩
theorem d47 (xi : List Int) (i : Nat) : (b2x xi i).2 = 0 ∨ (b2x xi i).2 = 130 := d7C (by rw [List.length_append, (d8x xi).1]; rfl)
theorem d1n (xi : List Int) (i : Nat) : m6 ([List.take 64 (List.drop 32 (b04 xi)), c9R (i : Int)], ()) = some (X5 (b04 xi) 32 64 ++ c9R (i : Int)) ∧ G0 ((4 : Int), X5 (b04 xi) 32 64 ++ c9R (i : Int), ()) = some (b2x xi i) :=
 ⟨c8J (a := X5 (b04 xi) 32 64) ⟨by rw [(d8x xi).1]; omega, (d8x xi).2⟩ ⟨by rw [c4X]; omega, c9S _⟩, d5I ⟨mB (by rw [List.length_append, (d8x xi).1, c4X]; omega), J7 (d8x xi).2 (c9S _)⟩⟩
theorem d9F {xi Z X : List Int} (hZ : Z.length = 5 * 256) {n1 n2 n3 n4 n5 : Nat} {β : Type} (K : _ → Option β) :
  ((∀ i, i < 5 → (b2x xi i).2 = 0) → m7 (x4 10) 10 (n1, n2, n3, n4, (0 : Int), [0], n5, b04 xi, Z, X, ()) K = K (.inr (n1, n2, n3, n4, [0], n5, b04 xi, sK xi, X, ()))) ∧
  (¬ (∀ i, i < 5 → (b2x xi i).2 = 0) → m7 (x4 10) 10 (n1, n2, n3, n4, (0 : Int), [0], n5, b04 xi, Z, X, ()) K = K (.inl (130, [0], ()))) := by
 have h := c05 (F := x4 10) (K := K) (fun i => (n1, n2, n3, n4, (i : Int), [0], n5, b04 xi, a1h (fun i => (b2x xi i).1) Z i, X, ())) (fun i => (b2x xi i).2 = 0) (.inl (130, [0], ())) (.inr (n1, n2, n3, n4, [0], n5, b04 xi, sK xi, X, ())) 5
  (fun i hi kn => by
   obtain ⟨e1, e2⟩ := d1n xi i
   have hs := P6 (f := fun i => (b2x xi i).1) hZ (fun j _ => (b8E xi j).1) hi
   constructor
   ·intro hc
    unfold x4
    dsimp only
    rw [if_pos (by omega), c5u (by omega), Option.bind_some, e1, Option.bind_some, e2, Option.bind_some, if_neg (fun h => h hc), if_pos (by omega), if_pos (by omega), if_pos (by omega), Int.toNat_natCast, hs, c7 (by omega) (by omega)]
    rfl
   ·intro hc
    unfold x4
    dsimp only
    rw [if_pos (by omega), c5u (by omega), Option.bind_some, e1, Option.bind_some, e2, Option.bind_some, if_pos hc, (d47 xi i).resolve_left hc])
  (fun kn => by
   unfold x4
   dsimp only
   rw [if_neg (by omega), P5 hZ]
   rfl) 5 0 10 (by omega) (by omega)
 rw [D9] at h
 exact ⟨fun hh => h.1 fun r _ hr6 => hh r hr6, fun hh => h.2 fun hh' => hh fun r hr6 => hh' r (Nat.zero_le _) hr6⟩
theorem d9E {xi Z S : List Int} (hZ : Z.length = 6 * 256) {n1 n2 n3 n4 n5 : Nat} {β : Type} (K : _ → Option β) :
  ((∀ i, i < 6 → (b2x xi (5 + i)).2 = 0) → m7 (u6 10) 10 (n1, n2, n3, n4, (0 : Int), [0], n5, b04 xi, S, Z, ()) K = K (.inr (n1, n3, n4, [0], n5, b04 xi, S, eK xi, ()))) ∧
  (¬ (∀ i, i < 6 → (b2x xi (5 + i)).2 = 0) → m7 (u6 10) 10 (n1, n2, n3, n4, (0 : Int), [0], n5, b04 xi, S, Z, ()) K = K (.inl (130, [0], ()))) := by
 have h := c05 (F := u6 10) (K := K) (fun i => (n1, n2, n3, n4, (i : Int), [0], n5, b04 xi, S, a1h (fun i => (b2x xi (5 + i)).1) Z i, ())) (fun i => (b2x xi (5 + i)).2 = 0) (.inl (130, [0], ())) (.inr (n1, n3, n4, [0], n5, b04 xi, S, eK xi, ())) 6
  (fun i hi kn => by
   obtain ⟨e1, e2⟩ := d1n xi (5 + i)
   have hs := P6 (f := fun i => (b2x xi (5 + i)).1) hZ (fun j _ => (b8E xi _).1) hi
   constructor
   ·intro hc
    unfold u6
    dsimp only
    rw [if_pos (by omega), c7 (x := (5 : Int) + (i : Int)) (by omega) (by omega), show (5 : Int) + (i : Int) = ((5 + i : Nat) : Int) by omega, c5u (by omega), Option.bind_some, e1, Option.bind_some, e2, Option.bind_some, if_neg (fun h => h hc), if_pos (by omega), if_pos (by omega), if_pos (by omega), Int.toNat_natCast, hs, c7 (by omega) (by omega)]
    rfl
   ·intro hc
    unfold u6
    dsimp only
    rw [if_pos (by omega), c7 (x := (5 : Int) + (i : Int)) (by omega) (by omega), show (5 : Int) + (i : Int) = ((5 + i : Nat) : Int) by omega, c5u (by omega), Option.bind_some, e1, Option.bind_some, e2, Option.bind_some, if_pos hc, (d47 xi _).resolve_left hc])
  (fun kn => by
   unfold u6
   dsimp only
   rw [if_neg (by omega), P5 hZ]
   rfl) 6 0 10 (by omega) (by omega)
 rw [D9] at h
 exact ⟨fun hh => h.1 fun r _ hr6 => hh r hr6, fun hh => h.2 fun hh' => hh fun r hr6 => hh' r (Nat.zero_le _) hr6⟩
theorem d8g {a : List Int} {i : Nat} (hi : i < 256) : (c35 a).1.getD i 0 = fPh (a.getD i 0) ∧ (c35 a).2.getD i 0 = fPl (a.getD i 0) := by
 unfold c35
 dsimp only
 exact ⟨i9 hi, i9 hi⟩
theorem d8h (a : List Int) : E6 256 (c35 a).1 ∧ E6 256 (c35 a).2 := ⟨rows.range fun i _ => by have := d7Q (a.getD i 0); omega, rows.range fun i _ => by have := d7R (a.getD i 0); omega⟩
theorem d9i (a : List Int) : inW 10 (B8 (c35 a).1) := by
 intro i hi
 rw [b2B hi, (d8g hi).1]
 have := d7Q (a.getD i 0)
 have h4 : (2 : Int) ^ 10 = 1024 := by decide
 omega
theorem d9m (a : List Int) : inW 13 (a33 4096 (c35 a).2) := by
 intro i hi
 have e : (a33 4096 (c35 a).2).getD i 0 = 4096 - (b39 (c35 a).2).getD i 0 := i9 hi
 rw [e, b2A hi, (d8g hi).2]
 have := d7R (a.getD i 0)
 have h4 : (2 : Int) ^ 13 = 8192 := by decide
 unfold c2r
 split <;> omega
theorem a6K (xi : List Int) : (c2n xi).length = 32 ∧ bytes (c2n xi) := ⟨U1 (by rw [c0d]; omega), D3 (c8D xi) _ _⟩
theorem d6J (xi : List Int) (n : Nat) : (pkT xi n).length = 32 + n * 320 := by
 unfold pkT
 rw [List.length_append, (a6K xi).1, a0k (w := 320) fun i _ => a6I 10 _]
theorem d64 (xi : List Int) (n : Nat) : (tlT xi n).length = n * 416 := by
 unfold tlT
 rw [a0k (w := 416) fun i _ => a6I 13 _]
theorem d91 (xi : List Int) (r : Nat) : E6 256 (tK xi r) := b1r _ _
theorem d90 (xi : List Int) : E6 (5 * 256) (sK xi) := a4i (f := fun i => (b2x xi i).1) (fun i => b8E xi i) 5
theorem d9U (xi : List Int) : E6 (6 * 256) (eK xi) := a4i (f := fun i => (b2x xi (5 + i)).1) (fun i => b8E xi _) 6
theorem d9X {xi : List Int} {n1 n2 n3 n4 : Nat} {S : List Int} {β : Type} (K : _ → Option β) :
  m7 (G3 10) 10 (32, n1, n2, n3, 0, (0 : Int), [0], 32, c2n xi, n4, b04 xi, S, eK xi, b0x (c1b (c2n xi)) (sK xi), 0, [], ()) K = K (.inr (32 + 6 * 320, n1, n2, n3, 0 + 6 * 416, [0], 32 + 6 * 320, pkT xi 6, n4, b04 xi, S, eK xi, 0 + 6 * 416, tlT xi 6, ())) := by
 refine i8 (F := G3 10) (s := fun i => (32 + i * 320, n1, n2, n3, 0 + i * 416, (i : Int), [0], 32 + i * 320, pkT xi i, n4, b04 xi, S, eK xi, b0x (c1b (c2n xi)) (sK xi), 0 + i * 416, tlT xi i, ())) (y := .inr (32 + 6 * 320, n1, n2, n3, 0 + 6 * 416, [0], 32 + 6 * 320, pkT xi 6, n4, b04 xi, S, eK xi, 0 + 6 * 416, tlT xi 6, ())) 6 (by simp [pkT, tlT, P7]) ?_ ?_ 10 (by omega)
 ·intro i hi kn
  have hT := c9P (c1b (c2n xi)) (sK xi)
  have e1 : Q0 (List.take 256 (List.drop (i * 256) (b0x (c1b (c2n xi)) (sK xi))), List.take 256 (List.drop (i * 256) (eK xi)), ()) = some (tK xi i) := c5j (a58 hT hi) (a58 (d9U xi) hi)
  have e2 := d7x (d91 xi i)
  have e3 : a2G ((10 : Int), (c35 (tK xi i)).1, ()) = some (pkW 10 (B8 (c35 (tK xi i)).1), 0) := c8F (d := 10) (by omega) (d8h _).1 (d9i _)
  have e4 : n9 ((4096 : Int), (13 : Int), (c35 (tK xi i)).2, ()) = some (pkW 13 (a33 4096 (c35 (tK xi i)).2), 0) := a9f (d := 13) (by omega) (by omega) (d8h _).2 (d9m _)
  have f1 : pkT xi i ++ pkW 10 (B8 (c35 (tK xi i)).1) = pkT xi (i + 1) := by unfold pkT; rw [List.append_assoc]; rfl
  have f2 : tlT xi i ++ pkW 13 (a33 4096 (c35 (tK xi i)).2) = tlT xi (i + 1) := rfl
  unfold G3
  dsimp only
  rw [if_pos (by omega), if_pos (by omega), if_pos (by omega), if_pos (by omega), if_pos (by omega), if_pos (by omega), if_pos (by omega), Int.toNat_natCast, e1, Option.bind_some, e2, Option.bind_some, e3, Option.bind_some, if_neg (by simp), a6I, if_pos (by omega), e4, Option.bind_some, if_neg (by simp), a6I, if_pos (by omega), f1, f2, c7 (by omega) (by omega), show 32 + i * 320 + 32 * 10 = 32 + (i + 1) * 320 by omega, show 0 + i * 416 + 32 * 13 = 0 + (i + 1) * 416 by omega, show (i : Int) + 1 = ((i + 1 : Nat) : Int) by omega]
 ·intro kn
  unfold G3
  dsimp only
  rw [if_neg (by omega)]
theorem d6W (xi : List Int) : (skH xi).length = 128 := by
 unfold skH
 rw [List.length_append, List.length_append, (a6K xi).1, U1 (by rw [c0d]; omega), a1j]
theorem d24 (xi : List Int) (n : Nat) : (skT xi n).length = 128 + n * 128 := by
 unfold skT
 rw [List.length_append, d6W, a0k (w := 128) fun i _ => a6I 4 _]
theorem c9J (xi : List Int) (n : Nat) : skT xi n ++ pkW 4 (a33 4 (b2x xi n).1) = skT xi (n + 1) := by
 unfold skT
 rw [List.append_assoc]
 rfl
theorem d9V {xi : List Int} {n1 n2 n4 n5 : Nat} {P X T : List Int} {β : Type} (K : _ → Option β) :
  m7 (G4 10) 10 (n1, 128 + 0 * 128, n2, (0 : Int), [0], n4, P, 128 + 0 * 128, skT xi 0, sK xi, X, n5, T, ()) K = K (.inr (n1, 128 + 5 * 128, n2, [0], n4, P, 128 + 5 * 128, skT xi 5, X, n5, T, ())) := by
 refine i8 (F := G4 10) (s := fun i => (n1, 128 + i * 128, n2, (i : Int), [0], n4, P, 128 + i * 128, skT xi i, sK xi, X, n5, T, ())) (y := .inr (n1, 128 + 5 * 128, n2, [0], n4, P, 128 + 5 * 128, skT xi 5, X, n5, T, ())) 5 rfl ?_ ?_ 10 (by omega)
 ·intro i hi kn
  have e4 : n9 ((4 : Int), (4 : Int), (b2x xi i).1, ()) = some (pkW 4 (a33 4 (b2x xi i).1), 0) := a9f (d := 4) (by omega) (by omega) (b8E xi i) (d48 _)
  have e5 : List.take 256 (List.drop (i * 256) (sK xi)) = (b2x xi i).1 := a9h (f := fun i => (b2x xi i).1) (fun j _ => (b8E xi j).1) hi
  unfold G4
  dsimp only
  rw [if_pos (by omega), if_pos (by omega), if_pos (by omega), Int.toNat_natCast, if_pos (by omega), e5, e4, Option.bind_some, if_neg (by simp), a6I, if_pos (by omega), c9J, c7 (by omega) (by omega), show 128 + i * 128 + 32 * 4 = 128 + (i + 1) * 128 by omega, show (i : Int) + 1 = ((i + 1 : Nat) : Int) by omega]
 ·intro kn
  unfold G4
  dsimp only
  rw [if_neg (by omega)]
theorem d9W {xi : List Int} {n1 n2 n4 n5 : Nat} {P T : List Int} {β : Type} (K : _ → Option β) :
  m7 (G5 10) 10 (n1, 128 + 5 * 128, n2, (0 : Int), [0], n4, P, 128 + 5 * 128, skT xi 5, eK xi, n5, T, ()) K = K (.inr (n1, 128 + 11 * 128, n2, [0], n4, P, 128 + 11 * 128, skT xi 11, n5, T, ())) := by
 refine i8 (F := G5 10) (s := fun i => (n1, 128 + (5 + i) * 128, n2, (i : Int), [0], n4, P, 128 + (5 + i) * 128, skT xi (5 + i), eK xi, n5, T, ())) (y := .inr (n1, 128 + 11 * 128, n2, [0], n4, P, 128 + 11 * 128, skT xi 11, n5, T, ())) 6 rfl ?_ ?_ 10 (by omega)
 ·intro i hi kn
  have e4 : n9 ((4 : Int), (4 : Int), (b2x xi (5 + i)).1, ()) = some (pkW 4 (a33 4 (b2x xi (5 + i)).1), 0) := a9f (d := 4) (by omega) (by omega) (b8E xi _) (d48 _)
  have e5 : List.take 256 (List.drop (i * 256) (eK xi)) = (b2x xi (5 + i)).1 := a9h (f := fun i => (b2x xi (5 + i)).1) (fun j _ => (b8E xi _).1) hi
  unfold G5
  dsimp only
  rw [if_pos (by omega), if_pos (by omega), if_pos (by omega), Int.toNat_natCast, if_pos (by omega), e5, e4, Option.bind_some, if_neg (by simp), a6I, if_pos (by omega), c9J, c7 (by omega) (by omega), show 128 + (5 + i) * 128 + 32 * 4 = 128 + (5 + (i + 1)) * 128 by omega, show 5 + i + 1 = 5 + (i + 1) by omega, show (i : Int) + 1 = ((i + 1 : Nat) : Int) by omega]
 ·intro kn
  unfold G5
  dsimp only
  rw [if_neg (by omega)]
end Go.Ax.TryP
set_option linter.unusedVariables false
namespace Go.Ax.TryP
open Go.Proofs
theorem c4j (xi : List Int) : d8c xi ↔ (∀ i, i < 5 → (b2x xi i).2 = 0) ∧ ∀ i, i < 6 → (b2x xi (5 + i)).2 = 0 := by
 constructor
 ·intro h
  exact ⟨fun i hi => h i (by omega), fun i hi => h (5 + i) (by omega)⟩
 ·intro h i hi
  by_cases h5 : i < 5
  ·exact h.1 i h5
  ·have := h.2 (i - 5) (by omega)
   rwa [show 5 + (i - 5) = i by omega] at this
theorem d2M (xi : List Int) : (pkD xi).length = 1952 ∧ bytes (pkD xi) := ⟨d6J xi 6, J7 (a6K xi).2 (a8e (fun i => b2h 10 _) 6)⟩
theorem c6u : ∀ x r, a2H x = some r → ∃ N, a4W N x = some r := by
 refine d9 (ks := a0O) (rs := a0P) fun x hw hq => ⟨10, ?_⟩
 obtain ⟨(xi : List Int), u⟩ := x
 have hxi : xi.length = 32 ∧ bytes xi := c3H.1 hw.1
 show a4W 10 (xi, u) = some (d3t xi)
 unfold a4W d3t
 dsimp only
 have hZ5 : (List.replicate 1280 (0 : Int)).length = 5 * 256 := by rw [List.length_replicate]
 have hZ6 : (List.replicate 1536 (0 : Int)).length = 6 * 256 := by rw [List.length_replicate]
 generalize List.replicate 1280 (0 : Int) = Z5 at hZ5 ⊢
 generalize List.replicate 1536 (0 : Int) = Z6 at hZ6 ⊢
 have e1 : J2 ((128 : Int), [List.take 32 (List.drop 0 xi), List.set (List.set (List.replicate 2 0) 0 (6 : Int)) 1 (5 : Int)], ()) = some (b04 xi) := by
  rw [show List.set (List.set (List.replicate 2 0) 0 (6 : Int)) 1 (5 : Int) = [6, 5] from rfl, List.drop_zero, List.take_of_length_le (by omega)]
  have e := b7h (n := 128) (l := [xi, [6, 5]]) (by omega) ⟨mB (by simp), fun zs hzs => by
   rcases List.mem_cons.1 hzs with rfl | hzs
   ·exact ⟨mB (by omega), hxi.2⟩
   ·rw [List.mem_singleton.1 hzs]
    refine ⟨mB (by simp), fun z hz => ?_⟩
    rcases List.mem_cons.1 hz with rfl | hz
    ·omega
    ·rw [List.mem_singleton.1 hz]; omega⟩
  refine e.trans ?_
  unfold b04
  simp
 have hl := c0d xi
 rw [e1, Option.bind_some, hl, if_pos (by omega), if_pos (by omega), if_pos (by omega), if_pos (by omega), show 128 - 32 = 96 from rfl, show 128 - 96 = 32 from rfl]
 by_cases c1 : ∀ i, i < 5 → (b2x xi i).2 = 0
 ·refine ((d9F (xi := xi) hZ5 _).1 c1).trans ?_
  dsimp only
  by_cases c2 : ∀ i, i < 6 → (b2x xi (5 + i)).2 = 0
  ·refine ((d9E (xi := xi) hZ6 _).1 c2).trans ?_
   dsimp only
   rw [show List.take 32 (List.drop 0 (b04 xi)) = c2n xi from rfl, c0u (a6K xi), Option.bind_some]
   by_cases c3 : a3L (c2n xi)
   ·have hmi := d2q (c2n xi)
    rw [b5q c3, if_neg (by simp), a1r ⟨(c4j xi).2 ⟨c1, c2⟩, c3⟩, show xg (some (false, (130 : Int), (c1b (c2n xi), ()))) = some (c1b (c2n xi), ()) from rfl, Option.bind_some, c5r hmi (d90 xi), Option.bind_some, c8I ⟨by rw [(a6K xi).1]; omega, (a6K xi).2⟩, Option.bind_some, (a6K xi).1]
    refine (d9X (xi := xi) _).trans ?_
    dsimp only
    have hp := d2M xi
    have e2 : J2 ((64 : Int), [pkT xi 6], ()) = some (a3S (pkD xi) 64) := by
     have e := b7h (n := 64) (l := [pkD xi]) (by omega) ⟨mB (by simp), fun zs hzs => by rw [List.mem_singleton.1 hzs]; exact ⟨mB (by rw [hp.1]; omega), hp.2⟩⟩
     refine e.trans ?_
     simp
    have e3 : m6 ([List.take 32 (List.drop 0 (b04 xi)), List.take 32 (List.drop 96 (b04 xi)), a3S (pkD xi) 64], ()) = some (skT xi 0) := by
     have hk : (X5 (b04 xi) 96 32).length = 32 ∧ bytes (X5 (b04 xi) 96 32) := ⟨U1 (by omega), D3 (c8D xi) _ _⟩
     have e := c0p (l := [c2n xi, X5 (b04 xi) 96 32, a3S (pkD xi) 64]) ⟨by simp, by simp [(a6K xi).1, hk.1, a1j]⟩ ⟨mB (by simp), fun zs hzs => by
      rcases List.mem_cons.1 hzs with rfl | hzs
      ·exact ⟨mB (by rw [(a6K xi).1]; omega), (a6K xi).2⟩
      rcases List.mem_cons.1 hzs with rfl | hzs
      ·exact ⟨mB (by rw [hk.1]; omega), hk.2⟩
      ·rw [List.mem_singleton.1 hzs]; exact ⟨mB (by rw [a1j]; omega), a7A _ _⟩⟩
     refine e.trans ?_
     simp [skT, skH, P7]
    have f1 : (skT xi 0).length = 128 + 0 * 128 := d24 xi 0
    rw [e2, Option.bind_some, e3, Option.bind_some, f1]
    refine (d9V (xi := xi) _).trans ?_
    dsimp only
    refine (d9W (xi := xi) _).trans ?_
    dsimp only
    rw [if_pos (by omega)]
    rfl
   ·rw [b2w c3, if_pos rfl, a0b (fun h => c3 h.2)]
    rfl
  ·refine ((d9E (xi := xi) hZ6 _).2 c2).trans ?_
   rw [a0b (fun h => c2 ((c4j xi).1 h.1).2)]
   rfl
 ·refine ((d9F (xi := xi) hZ5 _).2 c1).trans ?_
  rw [a0b (fun h => c1 ((c4j xi).1 h.1).1)]
  rfl
theorem c5m {xi : List Int} (h : xi.length = 32 ∧ bytes xi) : a2H (xi, ()) = some (d3t xi) :=
 d8 (ks := a0O) (rs := a0P) (x := (xi, ())) ⟨c3H.2 h, trivial⟩ trivial
end Go.Ax.TryP
set_option linter.unusedVariables false
namespace Go.Ax.TryP
open Go.Proofs
def frc {α : Type} (n : Nat) (f : Nat → α) : α := match n with
 | 0 => f 0
 | Nat.succ k => f (Nat.succ k)
theorem c00 {α : Type} (n : Nat) (f : Nat → α) : frc n f = f n := by cases n <;> rfl
def c5R {α : Type} : List Nat → (List Nat → α) → α
 | [], K => K []
 | a :: l, K => frc a fun v => c5R l fun l' => K (v :: l')
theorem a9m {α : Type} : ∀ (l : List Nat) (K : List Nat → α), c5R l K = K l
 | [], K => rfl
 | a :: l, K => by unfold c5R; rw [c00, a9m l]
def cl (s : List Nat) : List Int := s.map fun (n : Nat) => (n : Int)
def g0 (s : List Nat) (i : Nat) : Nat := s.getD i 0
theorem b1d (s : List Nat) (i : Nat) : at0 (cl s) i = (g0 s i : Int) := by
 unfold at0 cl g0
 rw [List.getD_eq_getElem?_getD, List.getD_eq_getElem?_getD, List.getElem?_map]
 cases s[i]? <;> rfl
def c49 (s : List Nat) : Prop := ∀ z ∈ s, z < 2 ^ 64
theorem a0d {s : List Nat} (h : c49 s) (i : Nat) : g0 s i < 2 ^ 64 := by
 unfold g0
 rw [List.getD_eq_getElem?_getD]
 cases he : s[i]? with
 | none => decide
 | some v => exact h v (List.mem_of_getElem? he)
def b2l (a n : Nat) : Nat := Nat.lor (Nat.mod (Nat.mul a (Nat.pow 2 n)) 18446744073709551616) (Nat.div a (Nat.pow 2 (Nat.sub 64 n)))
theorem c9D (a n : Nat) : b2l a n = (a * 2 ^ n % 2 ^ 64) ||| (a / 2 ^ (64 - n)) := rfl
theorem c8c {a n : Nat} (h : a < 2 ^ 64) : b2l a n < 2 ^ 64 := by
 rw [c9D]
 exact Nat.or_lt_two_pow (Nat.mod_lt _ (by decide)) (Nat.lt_of_le_of_lt (Nat.div_le_self _ _) h)
theorem b0c {a b : Nat} (ha : a < 2 ^ 64) (hb : b < 2 ^ 64) : x64 (a : Int) (b : Int) = ((Nat.xor a b : Nat) : Int) := c4g rfl ha hb
theorem a3T {a b : Nat} (ha : a < 2 ^ 64) (hb : b < 2 ^ 64) : Nat.xor a b < 2 ^ 64 := Nat.xor_lt_two_pow ha hb
theorem d2l {a b : Nat} (ha : a < 2 ^ 64) : Nat.land a b < 2 ^ 64 := Nat.lt_of_le_of_lt Nat.and_le_left ha
theorem d2T {a n : Nat} (ha : a < 2 ^ 64) (hn : n < 64) : rot (a : Int) (n : Int) = (b2l a n : Int) := by
 unfold rot
 rw [c9D]
 by_cases h0 : n = 0
 ·subst h0
  rw [if_pos (show ((0 : Nat) : Int) = 0 from rfl), Nat.pow_zero, Nat.mul_one, Nat.mod_eq_of_lt ha, Nat.sub_zero, Nat.div_eq_of_lt ha, Nat.or_zero]
 ·rw [if_neg (by omega), show (64 : Int) - (n : Int) = ((64 - n : Nat) : Int) by omega, a9p (by simp [IntKind.bits])]
  have e : b0E .u64 (a : Int) (n : Int) = ((a * 2 ^ n % 2 ^ 64 : Nat) : Int) := by
   unfold b0E
   rw [Int.toNat_natCast, Nat.min_eq_left (by simp [IntKind.bits]; omega)]
   simp [IntKind.wrap, IntKind.signed, IntKind.bits]
  rw [e]
  exact c4c rfl (Nat.mod_lt _ (by decide)) (Nat.lt_of_le_of_lt (Nat.div_le_self _ _) ha)
def c7S : List Nat := [0, 1, 62, 28, 27, 36, 44, 6, 55, 20, 3, 10, 43, 25, 39, 41, 45, 15, 21, 8, 18, 2, 61, 56, 14]
def d1F : List Nat := [0x0000000000000001, 0x0000000000008082, 0x800000000000808a, 0x8000000080008000, 0x000000000000808b, 0x0000000080000001, 0x8000000080008081, 0x8000000000008009, 0x000000000000008a, 0x0000000000000088, 0x0000000080008009, 0x000000008000000a, 0x000000008000808b, 0x800000000000008b, 0x8000000000008089, 0x8000000000008003, 0x8000000000008002, 0x8000000000000080, 0x000000000000800a, 0x800000008000000a, 0x8000000080008081, 0x8000000000008080, 0x0000000080000001, 0x8000000080008008]
theorem d6x : offs = cl c7S := rfl
theorem d50 : cons = cl d1F := rfl
theorem d6y (i : Nat) : g0 c7S i < 64 := by
 unfold g0
 rw [List.getD_eq_getElem?_getD]
 cases he : c7S[i]? with
 | none => decide
 | some v => exact (by decide : ∀ z ∈ c7S, z < 64) v (List.mem_of_getElem? he)
def cFN (s : List Nat) (x : Nat) : Nat := Nat.xor (Nat.xor (Nat.xor (Nat.xor (g0 s x) (g0 s (x + 5))) (g0 s (x + 10))) (g0 s (x + 15))) (g0 s (x + 20))
def dFN (s : List Nat) (x : Nat) : Nat := Nat.xor (cFN s ((x + 4) % 5)) (b2l (cFN s ((x + 1) % 5)) 1)
def tFN (s : List Nat) (i : Nat) : Nat := b2l (Nat.xor (g0 s i) (dFN s (i % 5))) (g0 c7S i)
def bFN (s : List Nat) (j : Nat) : Nat := tFN s (d4d j)
def eFN (b : Nat → Nat) (i : Nat) : Nat := Nat.xor (b i) (Nat.land (Nat.xor 18446744073709551615 (b (i / 5 * 5 + (i + 1) % 5))) (b (i / 5 * 5 + (i + 2) % 5)))
def d7m (s : List Nat) : List Nat := (List.range 25).map (eFN (bFN s))
def d6O (s : List Nat) (c : Nat) : List Nat := (d7m s).set 0 (Nat.xor (g0 (d7m s) 0) c)
theorem c5z {s : List Nat} (h : c49 s) (x : Nat) : cFN s x < 2 ^ 64 := a3T (a3T (a3T (a3T (a0d h _) (a0d h _)) (a0d h _)) (a0d h _)) (a0d h _)
theorem d7F {s : List Nat} (h : c49 s) (x : Nat) : cF (cl s) x = (cFN s x : Int) := by
 have a0 := a0d h x
 have a1 := a0d h (x + 5)
 have a2 := a0d h (x + 10)
 have a3 := a0d h (x + 15)
 have a4 := a0d h (x + 20)
 unfold cF cFN
 rw [b1d, b1d, b1d, b1d, b1d, b0c a0 a1, b0c (a3T a0 a1) a2, b0c (a3T (a3T a0 a1) a2) a3, b0c (a3T (a3T (a3T a0 a1) a2) a3) a4]
theorem d1K {s : List Nat} (h : c49 s) (x : Nat) : dFN s x < 2 ^ 64 := a3T (c5z h _) (c8c (c5z h _))
theorem d9c {s : List Nat} (h : c49 s) (x : Nat) : dF (cl s) x = (dFN s x : Int) := by
 unfold dF dFN
 rw [d7F h, d7F h, show (1 : Int) = ((1 : Nat) : Int) from rfl, d2T (c5z h _) (by omega), b0c (c5z h _) (c8c (c5z h _))]
theorem d41 {s : List Nat} (h : c49 s) (j : Nat) : bFN s j < 2 ^ 64 := c8c (a3T (a0d h _) (d1K h _))
theorem d84 {s : List Nat} (h : c49 s) (j : Nat) : bF (cl s) j = (bFN s j : Int) := by
 unfold bF tF bFN tFN
 have e : offs.getD (d4d j) 0 = (g0 c7S (d4d j) : Int) := by rw [d6x]; exact b1d c7S _
 rw [b1d, d9c h, b0c (a0d h _) (d1K h _), e, d2T (a3T (a0d h _) (d1K h _)) (d6y _)]
theorem d7L {b : Nat → Nat} (h : ∀ j, b j < 2 ^ 64) (i : Nat) : eFN b i < 2 ^ 64 := a3T (h _) (d2l (a3T (by decide) (h _)))
theorem d9e {b : Nat → Nat} {b' : Nat → Int} (h : ∀ j, b j < 2 ^ 64) (e : ∀ j, b' j = (b j : Int)) (i : Nat) : eF b' i = (eFN b i : Int) := by
 unfold eF eFN
 rw [e, e, e, show (18446744073709551615 : Int) = ((18446744073709551615 : Nat) : Int) from rfl, c4g rfl (by decide) (h _)]
 have h1 : 18446744073709551615 ^^^ b (i / 5 * 5 + (i + 1) % 5) < 2 ^ 64 := a3T (by decide) (h _)
 rw [b5C rfl h1 (h _)]
 exact b0c (h _) (d2l h1)
theorem c1c {s : List Nat} (h : c49 s) : c49 (d7m s) := by
 intro z hz
 obtain ⟨i, -, rfl⟩ := List.mem_map.1 hz
 exact d7L (d41 h) i
theorem d6s {s : List Nat} (h : c49 s) : d4k (cl s) = cl (d7m s) := by
 unfold d4k d7m cl
 rw [List.map_map]
 exact List.map_congr_left fun i _ => d9e (d41 h) (d84 h) i
theorem d2U {s : List Nat} (h : c49 s) {c : Nat} (hc : c < 2 ^ 64) : c9E (cl s) (c : Int) = cl (d6O s c) := by
 unfold c9E d6O
 rw [d6s h, b1d, b0c (a0d (c1c h) 0) hc]
 unfold cl
 rw [List.map_set]
theorem c9c {s : List Nat} (h : c49 s) {i v : Nat} (hv : v < 2 ^ 64) : c49 (s.set i v) := by
 intro z hz
 rcases List.mem_or_eq_of_mem_set hz with hz | rfl
 ·exact h z hz
 ·exact hv
theorem d2S {s : List Nat} (h : c49 s) {c : Nat} (hc : c < 2 ^ 64) : c49 (d6O s c) := c9c (c1c h) (a3T (a0d (c1c h) 0) hc)
theorem d4y (s : List Nat) (c : Nat) : (d6O s c).length = 25 := by simp [d6O, d7m]
def rnd (s : List Nat) (c : Nat) : List Nat := match s with
 | [a0, a1, a2, a3, a4, a5, a6, a7, a8, a9, a10, a11, a12, a13, a14, a15, a16, a17, a18, a19, a20, a21, a22, a23, a24] =>
  frc (Nat.xor (Nat.xor (Nat.xor (Nat.xor a0 a5) a10) a15) a20) fun c0 =>
  frc (Nat.xor (Nat.xor (Nat.xor (Nat.xor a1 a6) a11) a16) a21) fun c1 =>
  frc (Nat.xor (Nat.xor (Nat.xor (Nat.xor a2 a7) a12) a17) a22) fun c2 =>
  frc (Nat.xor (Nat.xor (Nat.xor (Nat.xor a3 a8) a13) a18) a23) fun c3 =>
  frc (Nat.xor (Nat.xor (Nat.xor (Nat.xor a4 a9) a14) a19) a24) fun c4 =>
  frc (Nat.xor c4 (b2l c1 1)) fun d0 =>
  frc (Nat.xor c0 (b2l c2 1)) fun d1 =>
  frc (Nat.xor c1 (b2l c3 1)) fun d2 =>
  frc (Nat.xor c2 (b2l c4 1)) fun d3 =>
  frc (Nat.xor c3 (b2l c0 1)) fun d4 =>
  frc (b2l (Nat.xor a0 d0) 0) fun b0 =>
  frc (b2l (Nat.xor a6 d1) 44) fun b1 =>
  frc (b2l (Nat.xor a12 d2) 43) fun b2 =>
  frc (b2l (Nat.xor a18 d3) 21) fun b3 =>
  frc (b2l (Nat.xor a24 d4) 14) fun b4 =>
  frc (b2l (Nat.xor a3 d3) 28) fun b5 =>
  frc (b2l (Nat.xor a9 d4) 20) fun b6 =>
  frc (b2l (Nat.xor a10 d0) 3) fun b7 =>
  frc (b2l (Nat.xor a16 d1) 45) fun b8 =>
  frc (b2l (Nat.xor a22 d2) 61) fun b9 =>
  frc (b2l (Nat.xor a1 d1) 1) fun b10 =>
  frc (b2l (Nat.xor a7 d2) 6) fun b11 =>
  frc (b2l (Nat.xor a13 d3) 25) fun b12 =>
  frc (b2l (Nat.xor a19 d4) 8) fun b13 =>
  frc (b2l (Nat.xor a20 d0) 18) fun b14 =>
  frc (b2l (Nat.xor a4 d4) 27) fun b15 =>
  frc (b2l (Nat.xor a5 d0) 36) fun b16 =>
  frc (b2l (Nat.xor a11 d1) 10) fun b17 =>
  frc (b2l (Nat.xor a17 d2) 15) fun b18 =>
  frc (b2l (Nat.xor a23 d3) 56) fun b19 =>
  frc (b2l (Nat.xor a2 d2) 62) fun b20 =>
  frc (b2l (Nat.xor a8 d3) 55) fun b21 =>
  frc (b2l (Nat.xor a14 d4) 39) fun b22 =>
  frc (b2l (Nat.xor a15 d0) 41) fun b23 =>
  frc (b2l (Nat.xor a21 d1) 2) fun b24 =>
  [Nat.xor (Nat.xor b0 (Nat.land (Nat.xor 18446744073709551615 b1) b2)) c, Nat.xor b1 (Nat.land (Nat.xor 18446744073709551615 b2) b3), Nat.xor b2 (Nat.land (Nat.xor 18446744073709551615 b3) b4), Nat.xor b3 (Nat.land (Nat.xor 18446744073709551615 b4) b0), Nat.xor b4 (Nat.land (Nat.xor 18446744073709551615 b0) b1), Nat.xor b5 (Nat.land (Nat.xor 18446744073709551615 b6) b7), Nat.xor b6 (Nat.land (Nat.xor 18446744073709551615 b7) b8), Nat.xor b7 (Nat.land (Nat.xor 18446744073709551615 b8) b9), Nat.xor b8 (Nat.land (Nat.xor 18446744073709551615 b9) b5), Nat.xor b9 (Nat.land (Nat.xor 18446744073709551615 b5) b6), Nat.xor b10 (Nat.land (Nat.xor 18446744073709551615 b11) b12), Nat.xor b11 (Nat.land (Nat.xor 18446744073709551615 b12) b13), Nat.xor b12 (Nat.land (Nat.xor 18446744073709551615 b13) b14), Nat.xor b13 (Nat.land (Nat.xor 18446744073709551615 b14) b10), Nat.xor b14 (Nat.land (Nat.xor 18446744073709551615 b10) b11), Nat.xor b15 (Nat.land (Nat.xor 18446744073709551615 b16) b17), Nat.xor b16 (Nat.land (Nat.xor 18446744073709551615 b17) b18), Nat.xor b17 (Nat.land (Nat.xor 18446744073709551615 b18) b19), Nat.xor b18 (Nat.land (Nat.xor 18446744073709551615 b19) b15), Nat.xor b19 (Nat.land (Nat.xor 18446744073709551615 b15) b16), Nat.xor b20 (Nat.land (Nat.xor 18446744073709551615 b21) b22), Nat.xor b21 (Nat.land (Nat.xor 18446744073709551615 b22) b23), Nat.xor b22 (Nat.land (Nat.xor 18446744073709551615 b23) b24), Nat.xor b23 (Nat.land (Nat.xor 18446744073709551615 b24) b20), Nat.xor b24 (Nat.land (Nat.xor 18446744073709551615 b20) b21)]
 | _ => []
theorem d8r (a0 a1 a2 a3 a4 a5 a6 a7 a8 a9 a10 a11 a12 a13 a14 a15 a16 a17 a18 a19 a20 a21 a22 a23 a24 c : Nat) : rnd [a0, a1, a2, a3, a4, a5, a6, a7, a8, a9, a10, a11, a12, a13, a14, a15, a16, a17, a18, a19, a20, a21, a22, a23, a24] c = d6O [a0, a1, a2, a3, a4, a5, a6, a7, a8, a9, a10, a11, a12, a13, a14, a15, a16, a17, a18, a19, a20, a21, a22, a23, a24] c := by
 unfold rnd
 simp only [c00]
 rfl
theorem d9k : ∀ {s : List Nat}, s.length = 25 → ∃ a0 a1 a2 a3 a4 a5 a6 a7 a8 a9 a10 a11 a12 a13 a14 a15 a16 a17 a18 a19 a20 a21 a22 a23 a24, s = [a0, a1, a2, a3, a4, a5, a6, a7, a8, a9, a10, a11, a12, a13, a14, a15, a16, a17, a18, a19, a20, a21, a22, a23, a24]
 | [a0, a1, a2, a3, a4, a5, a6, a7, a8, a9, a10, a11, a12, a13, a14, a15, a16, a17, a18, a19, a20, a21, a22, a23, a24], _ => ⟨a0, a1, a2, a3, a4, a5, a6, a7, a8, a9, a10, a11, a12, a13, a14, a15, a16, a17, a18, a19, a20, a21, a22, a23, a24, rfl⟩
theorem d6P {s : List Nat} (h : s.length = 25) (c : Nat) : rnd s c = d6O s c := by
 obtain ⟨a0, a1, a2, a3, a4, a5, a6, a7, a8, a9, a10, a11, a12, a13, a14, a15, a16, a17, a18, a19, a20, a21, a22, a23, a24, rfl⟩ := d9k h
 exact d8r a0 a1 a2 a3 a4 a5 a6 a7 a8 a9 a10 a11 a12 a13 a14 a15 a16 a17 a18 a19 a20 a21 a22 a23 a24 c
end Go.Ax.TryP
set_option linter.unusedVariables false
namespace Go.Ax.TryP
open Go.Proofs
def c6l : Nat → List Nat → List Nat
 | 0, s => s
 | n + 1, s => rnd (c6l n s) (g0 d1F n)
def a3z (s : List Nat) : List Nat := c6l 24 s
def c48 (s : List Nat) : Prop := s.length = 25 ∧ c49 s
theorem d1G (i : Nat) : g0 d1F i < 2 ^ 64 := a0d (by unfold c49; decide) i
theorem c1R {s : List Nat} (h : c48 s) : ∀ n, c48 (c6l n s) ∧ d0H n (cl s) = cl (c6l n s)
 | 0 => ⟨h, rfl⟩
 | n + 1 => by
  obtain ⟨⟨hl, hg⟩, e⟩ := c1R h n
  have e1 : cons.getD n 0 = (g0 d1F n : Int) := by rw [d50]; exact b1d d1F n
  unfold c6l d0H
  rw [d6P hl, e, e1]
  exact ⟨⟨d4y _ _, d2S hg (d1G n)⟩, d2U hg (d1G n)⟩
theorem b8o {s : List Nat} (h : c48 s) : c48 (a3z s) := (c1R h 24).1
theorem c4z {s : List Nat} (h : c48 s) : c2R (cl s) = cl (a3z s) := (c1R h 24).2
def d1a (s : List Nat) (p x : Nat) : List Nat := s.set (Nat.div p 8) (Nat.xor (g0 s (Nat.div p 8)) (Nat.mul x (Nat.pow 2 (Nat.mul 8 (Nat.mod p 8)))))
theorem c7j {x p : Nat} (hx : x < 256) : x * 2 ^ (8 * (p % 8)) < 2 ^ 64 := by
 have h : 2 ^ (8 * (p % 8)) ≤ 2 ^ 56 := Nat.pow_le_pow_right (by decide) (by omega)
 have h1 : x * 2 ^ (8 * (p % 8)) ≤ 255 * 2 ^ 56 := Nat.mul_le_mul (by omega) h
 omega
theorem c1T {s : List Nat} (h : c48 s) {p x : Nat} (hx : x < 256) : c48 (d1a s p x) :=
 ⟨by unfold d1a; rw [List.length_set]; exact h.1, c9c h.2 (a3T (a0d h.2 _) (c7j hx))⟩
theorem c70 {s : List Nat} (h : c48 s) {p x : Nat} (hx : x < 256) : d3v (cl s) p (x : Int) = cl (d1a s p x) := by
 have e : b0E .u64 (x : Int) ((8 * (p % 8) : Nat) : Int) = ((x * 2 ^ (8 * (p % 8)) : Nat) : Int) := c4e rfl (by simp [IntKind.bits]; omega) (c7j hx)
 unfold d3v
 rw [b1d, e, b0c (a0d h.2 _) (c7j hx)]
 unfold cl d1a
 rw [List.map_set]
 rfl
def d10 {α : Type} (rate : Nat) : List Nat → List Nat → Nat → (List Nat → Nat → α) → α
 | [], s, p, K => K s p
 | x :: l, s, p, K => frc (Nat.succ p) fun q => match Nat.beq q rate with
  | true => c5R (a3z (d1a s p x)) fun s' => d10 rate l s' 0 K
  | false => c5R (d1a s p x) fun s' => d10 rate l s' q K
def b1g (l : List Nat) : Prop := ∀ z ∈ l, z < 256
theorem c36 {rate : Nat} {α : Type} (K : List Nat → Nat → α) : ∀ (l s : List Nat) (p : Nat), b1g l → c48 s →
  ∃ s' p', c48 s' ∧ d10 rate l s p K = K s' p' ∧ b0D rate (cl s, p) (cl l) = (cl s', p')
 | [], s, p, _, hs => ⟨s, p, hs, rfl, rfl⟩
 | x :: l, s, p, hl, hs => by
  have hx : x < 256 := hl x (List.mem_cons_self ..)
  have hl' : b1g l := fun z hz => hl z (List.mem_cons_of_mem _ hz)
  have hp := c1T (p := p) hs hx
  have e1 : b0D rate (cl s, p) (cl (x :: l)) = b0D rate (c60 rate (cl s, p) (x : Int)) (cl l) := rfl
  unfold d10
  rw [c00, e1]
  unfold c60
  dsimp only
  rw [c70 hs hx]
  by_cases hq : p + 1 = rate
  ·have hb : Nat.beq (Nat.succ p) rate = true := by rw [← hq]; exact Nat.beq_refl _
   rw [hb, if_pos hq, c4z hp]
   dsimp only
   rw [a9m]
   exact c36 K l _ 0 hl' (b8o hp)
  ·have hb : Nat.beq (Nat.succ p) rate = false := by
    cases h : Nat.beq (Nat.succ p) rate with
    | false => rfl
    | true => exact absurd (Nat.eq_of_beq_eq_true h) hq
   rw [hb, if_neg hq]
   dsimp only
   rw [a9m]
   exact c36 K l _ _ hl' hp
def zN : List Nat := List.replicate 25 0
theorem d7f : c48 zN := ⟨by decide, by unfold c49; decide⟩
theorem d9y : z25 = cl zN := rfl
def d7u {α : Type} (rate e : Nat) (l : List Nat) (K : List Nat → α) : α :=
 d10 rate l zN 0 fun s p => c5R (a3z (d1a (d1a s p e) (Nat.sub rate 1) 128)) K
theorem c66 {rate e : Nat} (he : e < 256) {l : List Nat} (hl : b1g l) {α : Type} (K : List Nat → α) :
  ∃ s, c48 s ∧ d7u rate e l K = K s ∧ Q6 rate (e : Int) (z25, 0) (cl l) = cl s := by
 obtain ⟨s', p', hs, h1, h2⟩ := c36 (rate := rate) (fun s p => c5R (a3z (d1a (d1a s p e) (Nat.sub rate 1) 128)) K) l zN 0 hl d7f
 have ha := c1T (p := p') hs he
 have hb := c1T (p := rate - 1) ha (x := 128) (by decide)
 refine ⟨a3z (d1a (d1a s' p' e) (rate - 1) 128), b8o hb, ?_, ?_⟩
 ·unfold d7u
  rw [h1, a9m]
  rfl
 ·unfold Q6
  rw [d9y, h2]
  dsimp only
  rw [c70 hs he, show (128 : Int) = ((128 : Nat) : Int) from rfl, c70 ha (by decide), c4z hb]
def a7E (s : List Nat) (i : Nat) : Nat := Nat.mod (Nat.div (g0 s (Nat.div i 8)) (Nat.pow 2 (Nat.mul 8 (Nat.mod i 8)))) 256
theorem c5y (s : List Nat) (i : Nat) : c8Q (cl s) i = (a7E s i : Int) := by
 unfold c8Q
 rw [b1d, a9p (by simp [IntKind.bits]; omega), a99]
 exact (Int.natCast_emod _ _).symm
def one (b : Bool) : Nat := match b with
 | true => 1
 | false => 0
end Go.Ax.TryP
set_option linter.unusedVariables false
namespace Go.Ax.TryP
open Go.Proofs
def b9i (s : List Nat) : Nat → List Nat
 | 0 => s
 | k + 1 => a3z (b9i s k)
theorem d2x {s : List Nat} (h : c48 s) : ∀ k, c48 (b9i s k) ∧ a9Z k (cl s) = cl (b9i s k)
 | 0 => ⟨h, rfl⟩
 | k + 1 => by
  obtain ⟨h1, h2⟩ := d2x h k
  refine ⟨b8o h1, ?_⟩
  show c2R (a9Z k (cl s)) = _
  rw [h2, c4z h1]
  rfl
theorem c9v {rate : Nat} {s : List Nat} (h : c48 s) {k j : Nat} (hj : j < rate) : b2I rate (cl s) (k * rate + j) = (a7E (b9i s k) j : Int) := by
 unfold b2I
 rw [show (k * rate + j) / rate = k by rw [Nat.add_comm, Nat.add_mul_div_right _ _ (by omega), Nat.div_eq_of_lt hj, Nat.zero_add], show (k * rate + j) % rate = j by rw [Nat.add_comm, Nat.add_mul_mod_self_right, Nat.mod_eq_of_lt hj], (d2x h k).2]
 exact c5y _ _
def okC (s : List Nat) (t : Nat) : Nat := frc (a7E s (Nat.mul 3 t)) fun a => frc (a7E s (Nat.add (Nat.mul 3 t) 1)) fun b => frc (a7E s (Nat.add (Nat.mul 3 t) 2)) fun c => one (Nat.ble (Nat.succ (Nat.add (Nat.add a (Nat.mul 256 b)) (Nat.mul 65536 (Nat.mod c 128)))) 8380417)
def cnD (s : List Nat) : Nat → Nat
 | 0 => 0
 | t + 1 => Nat.add (cnD s t) (okC s t)
def d9w (s : List Nat) : Nat → Nat
 | 0 => 0
 | k + 1 => d9w s k + cnD (b9i s k) 56
theorem d76 (n : Nat) (z : Int) (hz : z = (n : Int)) : (if z < 8380417 then [z] else []).length = one (Nat.ble (Nat.succ n) 8380417) := by
 subst hz
 by_cases h : n < 8380417
 ·rw [if_pos (by omega), show Nat.ble (Nat.succ n) 8380417 = true by rw [Nat.ble_eq]; omega]
  rfl
 ·rw [if_neg (by omega), show Nat.ble (Nat.succ n) 8380417 = false by rw [← Bool.not_eq_true, Nat.ble_eq]; omega]
  rfl
theorem d4V {l : List Int} {s : List Nat} (h : c48 s) (ha : Q6 168 31 (z25, 0) l = cl s) (k : Nat) : ∀ t, t ≤ 56 → (a1k (b1C l) (56 * k + t)).length = (a1k (b1C l) (56 * k)).length + cnD (b9i s k) t
 | 0, _ => rfl
 | t + 1, ht => by
  have e : ∀ j, j < 168 → shk l (k * 168 + j) = (a7E (b9i s k) j : Int) := fun j hj => by
   unfold shk
   rw [ha]
   exact c9v h hj
  show (a1k (b1C l) (56 * k + t) ++ b1C l (56 * k + t)).length = _
  rw [List.length_append, d4V h ha k t (by omega), Nat.add_assoc]
  show _ + (cnD (b9i s k) t + (b1C l (56 * k + t)).length) = _ + (cnD (b9i s k) t + okC (b9i s k) t)
  refine congrArg (_ + ·) (congrArg (cnD (b9i s k) t + ·) ?_)
  unfold b1C okC
  rw [c00, c00, c00]
  refine d76 _ _ ?_
  unfold c2p
  rw [show 3 * (56 * k + t) = k * 168 + 3 * t by omega, e _ (by omega), show k * 168 + 3 * t + 1 = k * 168 + (3 * t + 1) by omega, e _ (by omega), show k * 168 + 3 * t + 2 = k * 168 + (3 * t + 2) by omega, e _ (by omega)]
  show _ = ((a7E (b9i s k) (3 * t) + 256 * a7E (b9i s k) (3 * t + 1) + 65536 * (a7E (b9i s k) (3 * t + 2) % 128) : Nat) : Int)
  omega
theorem d1g {l : List Int} {s : List Nat} (h : c48 s) (ha : Q6 168 31 (z25, 0) l = cl s) : ∀ k, (a1k (b1C l) (56 * k)).length = d9w s k
 | 0 => rfl
 | k + 1 => by
  rw [show 56 * (k + 1) = 56 * k + 56 by omega, d4V h ha k 56 (Nat.le_refl _), d1g h ha k]
  rfl
def d9t (l : List Nat) : Bool := d7u 168 31 l fun s0 => c5R (a3z s0) fun s1 => c5R (a3z s1) fun s2 => c5R (a3z s2) fun s3 => c5R (a3z s3) fun s4 =>
 Nat.ble 256 (Nat.add (Nat.add (Nat.add (Nat.add (cnD s0 56) (cnD s1 56)) (cnD s2 56)) (cnD s3 56)) (cnD s4 56))
theorem d6B {l : List Nat} (hl : b1g l) (h34 : l.length = 34) (h : d9t l = true) : (d2R (cl l)).2 = 0 := by
 obtain ⟨s, hs, h1, h2⟩ := c66 (rate := 168) (e := 31) (by decide) hl fun s0 => c5R (a3z s0) fun s1 => c5R (a3z s1) fun s2 => c5R (a3z s2) fun s3 => c5R (a3z s3) fun s4 =>
  Nat.ble 256 (Nat.add (Nat.add (Nat.add (Nat.add (cnD s0 56) (cnD s1 56)) (cnD s2 56)) (cnD s3 56)) (cnD s4 56))
 unfold d9t at h
 rw [h1, a9m, a9m, a9m, a9m] at h
 have e := d1g (l := cl l) hs h2 5
 have e5 : d9w s 5 = 0 + cnD s 56 + cnD (a3z s) 56 + cnD (a3z (a3z s)) 56 + cnD (a3z (a3z (a3z s))) 56 + cnD (a3z (a3z (a3z (a3z s)))) 56 := rfl
 have hge : 256 ≤ (a1k (b1C (cl l)) (56 * 5)).length := by
  rw [e, e5, Nat.zero_add]
  exact Nat.le_of_ble_eq_true h
 have hf := (b1c (f := b1C (cl l)) (t := 56 * 5) (u := 1024) (by decide) hge).1
 have hc : (cl l).length = 34 := by unfold cl; rw [List.length_map, h34]
 unfold d2R
 rw [if_neg (by rw [hc]; decide)]
 generalize a1k (b1C (cl l)) 1024 = A at hf ⊢
 rw [if_neg (by omega)]
def d9r (s : List Nat) (q : Nat) : Nat := frc (a7E s q) fun b => Nat.add (one (Nat.ble (Nat.succ (Nat.mod b 16)) 9)) (one (Nat.ble (Nat.succ (Nat.div b 16)) 9))
def cnB (s : List Nat) : Nat → Nat
 | 0 => 0
 | q + 1 => Nat.add (cnB s q) (d9r s q)
theorem d2o (n : Nat) (z : Int) (hz : z = (n : Int)) : (d5z 4 z).length = one (Nat.ble (Nat.succ n) 9) := by
 subst hz
 unfold d5z
 rw [if_neg (by decide)]
 by_cases h : n < 9
 ·rw [if_pos (by omega), show Nat.ble (Nat.succ n) 9 = true by rw [Nat.ble_eq]; omega]
  rfl
 ·rw [if_neg (by omega), show Nat.ble (Nat.succ n) 9 = false by rw [← Bool.not_eq_true, Nat.ble_eq]; omega]
  rfl
theorem c67 {l : List Int} {s : List Nat} (h : c48 s) (ha : Q6 136 31 (z25, 0) l = cl s) (k : Nat) : ∀ q, q ≤ 136 → (a1k (a5A 4 l) (2 * (136 * k + q))).length = (a1k (a5A 4 l) (2 * (136 * k))).length + cnB (b9i s k) q
 | 0, _ => rfl
 | q + 1, hq => by
  have e : shb l (136 * k + q) = (a7E (b9i s k) q : Int) := by
   unfold shb
   rw [ha, Nat.mul_comm 136 k]
   exact c9v h (by omega)
  show (a1k (a5A 4 l) (2 * (136 * k + q)) ++ a5A 4 l (2 * (136 * k + q)) ++ a5A 4 l (2 * (136 * k + q) + 1)).length = _
  rw [List.length_append, List.length_append, c67 h ha k q (by omega)]
  have g1 : (a5A 4 l (2 * (136 * k + q))).length = one (Nat.ble (Nat.succ (a7E (b9i s k) q % 16)) 9) := by
   unfold a5A
   refine d2o _ _ ?_
   unfold a8v
   rw [if_pos (by omega), show 2 * (136 * k + q) / 2 = 136 * k + q by omega, e]
   omega
  have g2 : (a5A 4 l (2 * (136 * k + q) + 1)).length = one (Nat.ble (Nat.succ (a7E (b9i s k) q / 16)) 9) := by
   unfold a5A
   refine d2o _ _ ?_
   unfold a8v
   rw [if_neg (by omega), show (2 * (136 * k + q) + 1) / 2 = 136 * k + q by omega, e]
   omega
  rw [g1, g2]
  show _ = _ + Nat.add (cnB (b9i s k) q) (d9r (b9i s k) q)
  unfold d9r
  rw [c00]
  show _ = _ + (cnB (b9i s k) q + (one (Nat.ble (Nat.succ (a7E (b9i s k) q % 16)) 9) + one (Nat.ble (Nat.succ (a7E (b9i s k) q / 16)) 9)))
  omega
def d9s (l : List Nat) : Bool := d7u 136 31 l fun s0 => c5R (a3z s0) fun s1 => Nat.ble 256 (Nat.add (cnB s0 136) (cnB s1 136))
theorem d6A {l : List Nat} (hl : b1g l) (h66 : l.length = 66) (h : d9s l = true) : (c8O 4 (cl l)).2 = 0 := by
 obtain ⟨s, hs, h1, h2⟩ := c66 (rate := 136) (e := 31) (by decide) hl fun s0 => c5R (a3z s0) fun s1 => Nat.ble 256 (Nat.add (cnB s0 136) (cnB s1 136))
 unfold d9s at h
 rw [h1, a9m] at h
 have e0 := c67 (l := cl l) hs h2 0 136 (Nat.le_refl _)
 have e1 := c67 (l := cl l) hs h2 1 136 (Nat.le_refl _)
 have hge : 256 ≤ (a1k (a5A 4 (cl l)) 544).length := by
  have h3 : 256 ≤ cnB s 136 + cnB (a3z s) 136 := Nat.le_of_ble_eq_true h
  have z0 : (a1k (a5A 4 (cl l)) (2 * (136 * 0))).length = 0 := rfl
  have n0 : b9i s 0 = s := rfl
  have n1 : b9i s 1 = a3z s := rfl
  rw [n0, z0, show 2 * (136 * 0 + 136) = 272 from rfl] at e0
  rw [n1, show 2 * (136 * 1) = 272 from rfl, show 2 * (136 * 1 + 136) = 544 from rfl] at e1
  omega
 have hf := (b1c (f := a5A 4 (cl l)) (t := 544) (u := 2048) (by decide) hge).1
 have hc : (cl l).length = 66 := by unfold cl; rw [List.length_map, h66]
 unfold c8O
 rw [if_neg (by rw [hc]; decide)]
 generalize a1k (a5A 4 (cl l)) 2048 = A at hf ⊢
 rw [if_neg (by omega)]
end Go.Ax.TryP
set_option linter.unusedVariables false
namespace Go.Ax.TryP
open Go.Proofs
def d4x : List Nat := [66, 75, 47, 38, 126, 88, 213, 179, 180, 77, 113, 172, 252, 106, 101, 107, 178, 105, 80, 213, 124, 97, 219, 28, 136, 11, 207, 161, 254, 171, 68, 63]
def d3x : List Nat := [205, 13, 174, 225, 147, 130, 67, 20, 202, 248, 238, 64, 99, 127, 27, 223, 106, 36, 224, 25, 229, 154, 132, 244, 159, 253, 148, 138, 173, 25, 127, 136, 153, 255, 104, 180, 192, 45, 238, 35, 54, 223, 95, 154, 77, 30, 61, 145, 90, 253, 16, 69, 137, 117, 255, 1, 217, 219, 248, 188, 188, 117, 181, 225]
theorem d7v : (d7u 136 31 (List.replicate 32 0 ++ [6, 5]) fun s => decide ((List.range 128).map (a7E s) = d4x ++ d3x ++ (List.range 32).map fun i => a7E s (96 + i))) = true := by decide +kernel
theorem d2X : ([0, 1, 2, 3, 4, 5].all fun r => [0, 1, 2, 3, 4].all fun c => d9t (d4x ++ [c, r])) = true := by decide +kernel
theorem d2W : ([0, 1, 2, 3, 4, 5, 6, 7, 8, 9, 10].all fun i => d9s (d3x ++ [i, 0])) = true := by decide +kernel
end Go.Ax.TryP
set_option linter.unusedVariables false
namespace Go.Ax.TryP
open Go.Proofs
theorem d2J {rate n : Nat} {s : List Nat} (hn : n ≤ rate) (hr : 0 < rate) : (List.range n).map (b2I rate (cl s)) = cl ((List.range n).map (a7E s)) := by
 unfold cl
 rw [List.map_map]
 refine List.map_congr_left fun i hi => ?_
 have h := List.mem_range.1 hi
 unfold b2I
 rw [Nat.div_eq_of_lt (by omega), Nat.mod_eq_of_lt (by omega)]
 exact c5y s i
def a02 : List Int := List.replicate 32 0
theorem d3C : ∃ t : List Nat, b04 a02 = cl (d4x ++ d3x ++ t) := by
 have e : a02 ++ [6, 5] = cl (List.replicate 32 0 ++ [6, 5]) := rfl
 obtain ⟨s, hs, h1, h2⟩ := c66 (rate := 136) (e := 31) (by decide) (l := List.replicate 32 0 ++ [6, 5]) (by unfold b1g; decide) fun s => decide ((List.range 128).map (a7E s) = d4x ++ d3x ++ (List.range 32).map fun i => a7E s (96 + i))
 have h := d7v
 rw [h1] at h
 have h3 := of_decide_eq_true h
 refine ⟨(List.range 32).map fun i => a7E s (96 + i), ?_⟩
 unfold b04 a3S a0f
 rw [e, show (31 : Int) = ((31 : Nat) : Int) from rfl, h2, d2J (by decide) (by decide), h3]
theorem c8T (a b : List Nat) : cl (a ++ b) = cl a ++ cl b := by unfold cl; rw [List.map_append]
theorem c9C : c2n a02 = cl d4x ∧ X5 (b04 a02) 32 64 = cl d3x := by
 obtain ⟨t, ht⟩ := d3C
 unfold c2n X5
 rw [ht, c8T, c8T]
 have h1 : (cl d4x).length = 32 := rfl
 have h2 : (cl d3x).length = 64 := rfl
 refine ⟨?_, ?_⟩
 ·rw [List.drop_zero, List.append_assoc, List.take_left' h1]
 ·rw [List.append_assoc, List.drop_left' h1, List.take_left' h2]
theorem c3a {a b : List Nat} (ha : b1g a) (hb : b1g b) : b1g (a ++ b) := fun z hz => (List.mem_append.1 hz).elim (ha z) (hb z)
theorem d2C : d8c a02 := by
 intro i hi
 have h0 := d2W
 rw [List.all_eq_true] at h0
 have h1 := h0 i (by simp; omega)
 have h2 := d6A (l := d3x ++ [i, 0]) (c3a (by unfold b1g; decide) (fun z hz => by simp at hz; omega)) rfl h1
 unfold b2x
 rw [c9C.2, show cl d3x ++ c9R (i : Int) = cl (d3x ++ [i, 0]) by
  rw [c8T]
  refine congrArg (cl d3x ++ ·) ?_
  show [(i : Int) % 256, (i : Int) / 256 % 256] = [(i : Int), ((0 : Nat) : Int)]
  rw [show (i : Int) % 256 = i by omega, show (i : Int) / 256 % 256 = ((0 : Nat) : Int) by omega]]
 exact h2
theorem d0E : a3L (c2n a02) := by
 intro r hr c hc
 have h0 := d2X
 rw [List.all_eq_true] at h0
 have h1 := h0 r (by simp; omega)
 rw [List.all_eq_true] at h1
 have h2 := d6B (l := d4x ++ [c, r]) (c3a (by unfold b1g; decide) (fun z hz => by simp at hz; omega)) rfl (h1 c (by simp; omega))
 unfold c47
 rw [c9C.1, show cl d4x ++ [(c : Int), (r : Int)] = cl (d4x ++ [c, r]) by rw [c8T]; rfl]
 exact h2
theorem d5u (xi : List Int) : (skD xi).length = 4032 ∧ bytes (skD xi) := by
 unfold skD
 refine ⟨by rw [List.length_append, d24, d64], J7 (J7 ?_ (a8e (fun i => b2h 4 _) 11)) (a8e (fun i => b2h 13 _) 6)⟩
 unfold skH
 exact J7 (J7 (a6K xi).2 (D3 (c8D xi) _ _)) (a7A _ _)
theorem d2k : d3t a02 = (pkD a02, skD a02, 0) := by
 unfold d3t
 exact a1r ⟨d2C, d0E⟩ _ _
theorem d7g : ¬ d8d (List.replicate 3309 0) := by
 intro h
 have h0 := h 0 (by omega)
 have h1 := d5k (d2w (a := zV (List.replicate 3309 0) 0) (m := 524091) (by omega) (by omega) (i := 0) (by omega))
 have hb : ∀ t, b7j (X5 (List.replicate 3309 0) (48 + 640 * 0) 640) t = 0 := fun t => by
  unfold b7j X5
  rw [List.drop_replicate, List.take_replicate, List.getD_eq_getElem?_getD, List.getElem?_replicate]
  split
  ·unfold c7i; rw [Option.getD_some]; simp
  ·unfold c7i; rw [Option.getD_none]; simp
 have e : (zV (List.replicate 3309 0) 0).getD 0 0 = 524288 := by
  unfold zV a2j
  rw [i9 (by omega)]
  simp only [hb]
  decide
 rw [e] at h1
 unfold c2r at h1
 omega
theorem d4Q : d7r (pkD a02) [] [] (List.replicate 3309 0) = 70 := by
 unfold d7r
 rw [if_neg (fun h => h (d2M _).1), if_neg (by decide), if_neg (fun h => h (by rw [List.length_replicate])), a1r d7g]
theorem d6u : ([] : List Int).length ≤ maxLen ∧ bytes [] := ⟨mB (by simp), fun z hz => by simp at hz⟩
theorem c6y : ∀ x r, T5 x = some r → ∃ N, a41 N x = some r := by
 refine d9 (ks := a6E) (rs := a6F) fun x hw hq => ⟨0, ?_⟩
 have hp := d2M a02
 have hs := d5u a02
 have e1 : a2H (List.replicate 32 0, ()) = some (d3t a02) := c5m (xi := a02) ⟨rfl, fun z hz => by rw [List.eq_of_mem_replicate hz]; omega⟩
 have hv : (List.replicate 3309 (0 : Int)).length ≤ maxLen ∧ bytes (List.replicate 3309 (0 : Int)) := ⟨mB (by rw [List.length_replicate]; omega), fun z hz => by rw [List.eq_of_mem_replicate hz]; omega⟩
 have e2 := c5p (pk := pkD a02) (msg := []) (ctx := []) ⟨mB (by rw [hp.1]; omega), hp.2⟩ d6u d6u hv
 rw [d4Q] at e2
 have e3 : a2I ([], [], [], [], ()) = some 161 := c5p d6u d6u d6u d6u
 rw [d2k] at e1
 show a41 0 x = some true
 unfold a41
 generalize List.replicate 3309 (0 : Int) = sg at e2 ⊢
 generalize pkD a02 = pk at e1 e2 hp
 generalize skD a02 = sk at e1 hs
 rw [e1, Option.bind_some]
 dsimp only
 rw [if_pos rfl, if_pos (by rw [hp.1]; rfl), if_pos (by rw [hs.1]; rfl), if_pos (by decide), if_pos rfl, if_pos (by decide), e2, Option.bind_some, if_pos rfl, e3, Option.bind_some]
 rfl
theorem c79 : ∀ x r, a9n x = some r → ∃ N, a6D N x = some r := by
 refine d9 (ks := a1V) (rs := a75) fun x hw hq => ⟨x.1.length + 1, ?_⟩
 obtain ⟨(l : List (List Int)), u⟩ := x
 have hl : l.length ≤ maxLen ∧ ∀ zs ∈ l, zs.length ≤ maxLen ∧ _ := hw.1
 have hm : maxLen ≤ 9223372036854775807 := by unfold maxLen; omega
 show a6D (l.length + 1) (l, u) = some (decide (∀ b ∈ l, b.length ≤ 6000))
 unfold a6D
 dsimp only
 generalize hN : l.length + 1 = N
 have h := fun K : _ → Option Bool => c05 (F := N1 N) (K := K) (fun i => (l, ((l.length : Nat) : Int), (i : Int), ())) (fun i => (l.getD i []).length ≤ 6000) (.inl (false, ())) (.inr ()) l.length
  (fun i hi kn => by
   constructor
   ·intro hc
    unfold N1
    dsimp only
    rw [if_pos (by omega), if_pos (by omega), if_pos (by omega), Int.toNat_natCast, if_neg (by omega), c7 (by omega) (by omega)]
    rfl
   ·intro hc
    unfold N1
    dsimp only
    rw [if_pos (by omega), if_pos (by omega), if_pos (by omega), Int.toNat_natCast, if_pos (by omega)])
  (fun kn => by
   unfold N1
   dsimp only
   rw [if_neg (by omega)]) l.length 0 N (by omega) (by omega)
 have hiff : (∀ k, 0 ≤ k → k < l.length → (l.getD k []).length ≤ 6000) ↔ ∀ b ∈ l, b.length ≤ 6000 := by
  constructor
  ·intro h b hb
   obtain ⟨i, hi, rfl⟩ := List.mem_iff_getElem.1 hb
   have := h i (Nat.zero_le _) hi
   rwa [List.getD_eq_getElem?_getD, List.getElem?_eq_getElem hi, Option.getD_some] at this
  ·intro h k _ hk
   rw [List.getD_eq_getElem?_getD, List.getElem?_eq_getElem hk, Option.getD_some]
   exact h _ (List.getElem_mem hk)
 by_cases hc : ∀ b ∈ l, b.length ≤ 6000
 ·rw [decide_eq_true hc]
  exact (h _).1 (hiff.2 hc)
 ·rw [decide_eq_false hc]
  exact (h _).2 (fun hh => hc (hiff.1 hh))
end Go.Ax.TryP
set_option linter.unusedVariables false
namespace Go.Ax.TryP
open Go.Proofs
noncomputable def b0g : List Int × List Int × List Int × Int × Int × Unit → Option Bool := a0n (ks := [.xs (.int .u8) 32, .xs (.int .u8) 32, .sl (.int .u8), .int .u8, .int .u8]) (rs := [.bool]) (fun _ => True) fun _ => true
end Go.Ax.TryP
set_option linter.unusedVariables false
namespace Go.Ax.TryP
open Go.Proofs
noncomputable abbrev b1a : Sig := ⟨[], [.bool], T5⟩
noncomputable abbrev b3X : Sig := ⟨[.sls b8], [.bool], a9n⟩
noncomputable abbrev b7c : Sig := ⟨[.fsl b8, .sl b8, .sl b8, .xs b8 32, .int .i64], [.sl b8, .int .i64], a8s⟩
noncomputable abbrev a9c : Sig := ⟨[.sl b8, .sl b8], [.bool], a5D⟩
noncomputable def p_law16_DsaTries_E : AE := AE.of [(3, ty3), (5, ty5), (22, ty22), (23, ty23), (35, ty35)] [(8, a4G), (6, b1a), (7, b3X), (9, b7c), (11, a9c)]
noncomputable def b6C : Hints := [(2000000, [13, 18]), (3000000, [10])]
noncomputable def b6D : Code := (Try.f5).body.getD .skip
abbrev V6 : List Kd := [.xs b8 32, .xs b8 32, .sl b8, .int .u8, .int .u8]
abbrev a6C : List Kd := [.bool]
noncomputable def Z0 (N : Nat) (x : List Int × List Int × List Int × Int × Int × Unit) : Option (Bool) :=
 (a2H (x.1, ())).bind fun r1 => (
 (T5 (())).bind fun r2 => (
 if (¬ (r2 = true)) then
  (T5 (())).bind fun r3 => (
  some (decide (r3 = true)))
 else
  if (r1.2.2 ≠ (0:Int)) then
   (T5 (())).bind fun r4 => (
   some (decide (r4 = true)))
  else
   (a9n ([x.2.2.1], ())).bind fun r5 => (
   if (¬ (r5 = true)) then
    (T5 (())).bind fun r6 => (
    some (decide (r6 = true)))
   else
    (a8s (r1.2.1, x.2.2.1, [], x.2.1, (if (IntKind.i64.wrap ((1:Int) + (Int.tmod (IntKind.i64.wrap x.2.2.2.2.1) (12:Int)))) < (IntKind.i64.wrap ((1:Int) + (Int.tmod (IntKind.i64.wrap x.2.2.2.1) (12:Int)))) then (IntKind.i64.wrap ((1:Int) + (Int.tmod (IntKind.i64.wrap x.2.2.2.2.1) (12:Int)))) else (IntKind.i64.wrap ((1:Int) + (Int.tmod (IntKind.i64.wrap x.2.2.2.1) (12:Int))))), ())).bind fun r7 => (
    (a8s (r1.2.1, x.2.2.1, [], x.2.1, (if (IntKind.i64.wrap ((1:Int) + (Int.tmod (IntKind.i64.wrap x.2.2.2.2.1) (12:Int)))) > (IntKind.i64.wrap ((1:Int) + (Int.tmod (IntKind.i64.wrap x.2.2.2.1) (12:Int)))) then (IntKind.i64.wrap ((1:Int) + (Int.tmod (IntKind.i64.wrap x.2.2.2.2.1) (12:Int)))) else (IntKind.i64.wrap ((1:Int) + (Int.tmod (IntKind.i64.wrap x.2.2.2.1) (12:Int))))), ())).bind fun r8 => (
    if (r7.2 = (0:Int)) then
     if (r8.2 = (0:Int)) then
      (a5D (r7.1, r8.1, ())).bind fun r9 => (
      some (decide (r9 = true)))
     else
      some false
    else
     if (r7.2 = (162:Int)) then
      if ((IntKind.i64.wrap ((1:Int) + (Int.tmod (IntKind.i64.wrap x.2.2.2.1) (12:Int)))) ≠ (IntKind.i64.wrap ((1:Int) + (Int.tmod (IntKind.i64.wrap x.2.2.2.2.1) (12:Int))))) then
       some true
      else
       some (decide (r8.2 = (162:Int)))
     else
      some (decide (r7.2 = r8.2)))))))
theorem b3y (e0 : c8 Try.prog 8 a4G) (e1 : c8 Try.prog 6 b1a) (e2 : c8 Try.prog 7 b3X) (e3 : c8 Try.prog 9 b7c) (e4 : c8 Try.prog 11 a9c) : p_law16_DsaTries_E.Ok Try.prog := AE.of_ok (all_cons a5x (all_cons T9 (all_cons c40 (all_cons E0 (all_cons a2D c6))))) (all_cons ⟨e0, a8o⟩ (all_cons ⟨e1, b7s⟩ (all_cons ⟨e2, b9e⟩ (all_cons ⟨e3, c0Q⟩ (all_cons ⟨e4, b5z⟩ c6)))))
theorem b42 (hE : p_law16_DsaTries_E.Ok Try.prog) {g : Ds V6 → Option (Rs [.bool])} (hg : ∀ x r, g x = some r → ∃ N, Z0 N x = some r) : c8 Try.prog 5 ⟨V6, [.bool], g⟩ :=
 i5 (E := p_law16_DsaTries_E) (H := b6C) (L := fun N => LT.nil) (c := b6D) (ks := V6) (rs := a6C) (F := Z0) hE mix Try.func5 (by kernel_rfl) (fun N => OkAll.nil) (fun _ _ => by kernel_rfl) hg
end Go.Ax.TryP
set_option linter.unusedVariables false
namespace Go.Ax.TryP
open Go.Proofs
theorem d4X (l : List Int) : ∀ n, bytes (b0d l n)
 | 0 => fun z hz => by simp [b0d, b3Y] at hz
 | n + 1 => by
  show bytes (b0d l n ++ d5p l n)
  exact J7 (d4X l n) fun z hz => by have := (d6Q l n).2 z hz; omega
theorem d6I (c w e l : List Int) : bytes (c4y (hrow c w e l) 55).1 := by
 have h6 : (hrow c w e l).length / 256 = 6 := by rw [c4a c w e l]
 unfold c4y
 rw [h6]
 split
 ·exact fun z hz => by simp at hz
 ·split
  ·exact fun z hz => by simp at hz
  ·rename_i h1 h2
   refine J7 (J7 (d4X _ _) fun z hz => by rw [List.eq_of_mem_replicate hz]; omega) fun z hz => ?_
   obtain ⟨k, hk, rfl⟩ := List.mem_map.1 hz
   have hk := List.mem_range.1 hk
   have hle : (b0d (hrow c w e l) (k + 1)).length ≤ (b0d (hrow c w e l) 6).length := c68 _ (by omega)
   unfold d5e
   omega
theorem d97 {ct : List Int} (h : bytes ct) (c s y : List Int) (n : Nat) : bytes (zT ct c s y n) := J7 h (a8e (fun i => b2h 20 _) n)
theorem d8w {ct : List Int} (h : bytes ct) (c s e l y w : List Int) : bytes (d6V ct c s e l y w) := J7 (d97 h c s y 5) (d6I c w e l)
theorem d4D {ct c s e l y w : List Int} (h : ct.length = 48) (ho : c4l c s e l y w) : (d6V ct c s e l y w).length = 3309 := by
 unfold d6V
 rw [List.length_append, d8O h, (c9w ho.2.2).2]
theorem c6J (t : Nat → Bool × Int × (List Int × Bool)) : ∀ n k, ((d0O t k n).1 = [] ∧ ((d0O t k n).2 = 162 ∨ ∃ j, j < k + n ∧ (t j).1 = true ∧ (d0O t k n).2 = (t j).2.1)) ∨ ∃ j, j < k + n ∧ (t j).1 = false ∧ (t j).2.2.2 = true ∧ d0O t k n = ((t j).2.2.1, 0)
 | 0, k => .inl ⟨rfl, .inl rfl⟩
 | n + 1, k => by
  unfold d0O
  by_cases h : (t k).1 = true
  ·rw [if_pos h]
   exact .inl ⟨rfl, .inr ⟨k, by omega, h, rfl⟩⟩
  ·rw [if_neg h]
   by_cases h2 : (t k).2.2.2 = true
   ·rw [if_pos h2]
    exact .inr ⟨k, by omega, by simpa using h, h2, rfl⟩
   ·rw [if_neg h2]
    have ih := c6J t n (k + 1)
    rw [show k + 1 + n = k + (n + 1) by omega] at ih
    exact ih
theorem c6K (t : Nat → Bool × Int × (List Int × Bool)) (d : Nat) : ∀ n k, d0O t k (n + d) = d0O t k n ∨ d0O t k n = ([], 162)
 | 0, k => .inr rfl
 | n + 1, k => by
  rw [show n + 1 + d = n + d + 1 by omega]
  unfold d0O
  by_cases h : (t k).1 = true
  ·rw [if_pos h, if_pos h]; exact .inl rfl
  ·rw [if_neg h, if_neg h]
   by_cases h2 : (t k).2.2.2 = true
   ·rw [if_pos h2, if_pos h2]; exact .inl rfl
   ·rw [if_neg h2, if_neg h2]
    exact c6K t d n (k + 1)
def yK (sk msg ctx rnd : List Int) (k : Nat) : List Int := P7 (yD (d3w sk rnd (muS sk msg ctx)) k) 5
def wK (sk msg ctx rnd : List Int) (k : Nat) : List Int := b0x (c1b (X5 sk 0 32)) (yK sk msg ctx rnd k)
def ctK (sk msg ctx rnd : List Int) (k : Nat) : List Int := c2q (muS sk msg ctx) (hiD (wK sk msg ctx rnd k))
theorem d46 : ∃ f : List Int → List Int, ∀ ct, f ct = (a47 49 ct).1 := ⟨fun ct => (a47 49 ct).1, fun ct => Eq.refl _⟩
noncomputable def blF : List Int → List Int := Classical.choose d46
theorem d7B (ct : List Int) : blF ct = (a47 49 ct).1 := Classical.choose_spec d46 ct
theorem d45 : ∃ f : List Int → Int, ∀ ct, f ct = (a47 49 ct).2 := ⟨fun ct => (a47 49 ct).2, fun ct => Eq.refl _⟩
noncomputable def blE : List Int → Int := Classical.choose d45
theorem d44 (ct : List Int) : blE ct = (a47 49 ct).2 := Classical.choose_spec d45 ct
theorem d86 (ct : List Int) : blE ct = 0 ∨ blE ct = 130 := by rw [d44]; exact d5T ct
noncomputable def cK (sk msg ctx rnd : List Int) (k : Nat) : List Int := blF (ctK sk msg ctx rnd k)
def sE (sk : List Int) : List Int := P7 (skP sk) 5
def eE (sk : List Int) : List Int := P7 (fun i => skP sk (5 + i)) 6
def lE (sk : List Int) : List Int := P7 (skL sk) 6
def okK (sk msg ctx rnd : List Int) (k : Nat) : Prop := c4l (cK sk msg ctx rnd k) (sE sk) (eE sk) (lE sk) (yK sk msg ctx rnd k) (wK sk msg ctx rnd k)
noncomputable def d7p (sk msg ctx rnd : List Int) (k : Nat) : List Int := d6V (ctK sk msg ctx rnd k) (cK sk msg ctx rnd k) (sE sk) (eE sk) (lE sk) (yK sk msg ctx rnd k) (wK sk msg ctx rnd k)
theorem d65 {a1 a2 a3 s e l : List Int} {u : Unit} (ct : List Int) (b : List Int × Int) (y w : List Int) : d80 (a1, a2, a3, s, e, l, u) ct b y w = (decide (b.2 ≠ 0), b.2, cif (c4l b.1 s e l y w) (d6V ct b.1 s e l y w, true) ([], false)) := rfl
theorem d3h (sk msg ctx rnd : List Int) (k : Nat) : d7q sk msg ctx rnd k = (decide (blE (ctK sk msg ctx rnd k) ≠ 0), blE (ctK sk msg ctx rnd k), cif (okK sk msg ctx rnd k) (d7p sk msg ctx rnd k, true) ([], false)) := by
 have e2 : wD (c1b (X5 sk 0 32)) (d3w sk rnd (muS sk msg ctx)) k = wK sk msg ctx rnd k := by
  unfold wD wK yK
  exact Eq.refl _
 have e1 : ctD (c1b (X5 sk 0 32)) (muS sk msg ctx) (d3w sk rnd (muS sk msg ctx)) k = ctK sk msg ctx rnd k := by
  unfold ctD ctK
  rw [e2]
 have e3 : P7 (yD (d3w sk rnd (muS sk msg ctx)) k) 5 = yK sk msg ctx rnd k := by
  unfold yK
  exact Eq.refl _
 unfold d7q
 rw [d3i, e1, e2, e3]
 have e4 : d1b sk = (X5 sk 0 32, X5 sk 32 32, X5 sk 64 64, sE sk, eE sk, lE sk, ()) := by
  unfold d1b sE eE lE
  exact Eq.refl _
 have e5 : okK sk msg ctx rnd k = c4l (cK sk msg ctx rnd k) (sE sk) (eE sk) (lE sk) (yK sk msg ctx rnd k) (wK sk msg ctx rnd k) := by unfold okK; exact Eq.refl _
 have e6 : d7p sk msg ctx rnd k = d6V (ctK sk msg ctx rnd k) (cK sk msg ctx rnd k) (sE sk) (eE sk) (lE sk) (yK sk msg ctx rnd k) (wK sk msg ctx rnd k) := by unfold d7p; exact Eq.refl _
 have e7 : cK sk msg ctx rnd k = (a47 49 (ctK sk msg ctx rnd k)).1 := d7B _
 rw [e4, e5, e6, e7, d44]
 generalize a47 49 (ctK sk msg ctx rnd k) = b
 generalize wK sk msg ctx rnd k = w
 generalize yK sk msg ctx rnd k = y
 generalize ctK sk msg ctx rnd k = ct
 generalize sE sk = s
 generalize eE sk = e
 generalize lE sk = l
 exact d65 ..
theorem d21 (sk msg ctx rnd : List Int) (most : Int) : ((b3C sk msg ctx rnd most).1 = [] ∧ (b3C sk msg ctx rnd most).2 ≠ 0 ∧ (d2F sk → ((b3C sk msg ctx rnd most).2 = 3 ↔ 255 < ctx.length))) ∨
  ∃ j, d2F sk ∧ ctx.length ≤ 255 ∧ a3L (X5 sk 0 32) ∧ blE (ctK sk msg ctx rnd j) = 0 ∧ okK sk msg ctx rnd j ∧ b3C sk msg ctx rnd most = (d7p sk msg ctx rnd j, 0) := by
 unfold b3C
 by_cases h1 : d2F sk
 ·rw [a0b (fun h => h h1)]
  by_cases h2 : 255 < ctx.length
  ·rw [if_pos h2]
   exact .inl ⟨rfl, by decide, fun _ => ⟨fun _ => h2, fun _ => rfl⟩⟩
  ·rw [if_neg h2]
   by_cases h3 : most < 1
   ·rw [if_pos h3]
    exact .inl ⟨rfl, by decide, fun _ => ⟨fun h => absurd h (by decide), fun h => absurd h h2⟩⟩
   ·rw [if_neg h3]
    by_cases h4 : a3L (X5 sk 0 32)
    ·rw [a0b (fun h => h h4)]
     rcases c6J (d7q sk msg ctx rnd) most.toNat 0 with ⟨e1, e2⟩ | ⟨j, _, e1, e2, e3⟩
     ·refine .inl ⟨e1, ?_⟩
      rcases e2 with e2 | ⟨j, _, g1, g2⟩
      ·rw [e2]
       exact ⟨by decide, fun _ => ⟨fun h => absurd h (by decide), fun h => absurd h h2⟩⟩
      ·rw [d3h] at g1 g2
       have g1 := of_decide_eq_true g1
       have g3 := (d86 (ctK sk msg ctx rnd j)).resolve_left g1
       dsimp only at g2
       rw [g2, g3]
       exact ⟨by decide, fun _ => ⟨fun h => absurd h (by decide), fun h => absurd h h2⟩⟩
     ·rw [d3h] at e1 e2 e3
      dsimp only at e1 e2 e3
      by_cases h5 : okK sk msg ctx rnd j
      ·rw [a1r h5] at e3
       refine .inr ⟨j, h1, by omega, h4, ?_, h5, e3⟩
       have := of_decide_eq_false e1
       exact Classical.not_not.1 this
      ·rw [a0b h5] at e2
       cases e2
    ·rw [a1r h4]
     exact .inl ⟨rfl, by decide, fun _ => ⟨fun h => absurd h (by decide), fun h => absurd h h2⟩⟩
 ·rw [a1r h1]
  exact .inl ⟨rfl, by decide, fun h => absurd h h1⟩
theorem d5d (sk msg ctx rnd : List Int) (k : Nat) : (ctK sk msg ctx rnd k).length = 48 ∧ bytes (ctK sk msg ctx rnd k) := ⟨c0A _ _, c7l _ _⟩
theorem d5s {sk msg ctx rnd : List Int} {k : Nat} (h : okK sk msg ctx rnd k) : (d7p sk msg ctx rnd k).length = 3309 ∧ bytes (d7p sk msg ctx rnd k) := ⟨d4D (d5d _ _ _ _ _).1 h, d8w (d5d _ _ _ _ _).2 _ _ _ _ _ _⟩
theorem d8y (sk msg ctx rnd : List Int) (most : Int) : (b3C sk msg ctx rnd most).1.length ≤ 3309 ∧ bytes (b3C sk msg ctx rnd most).1 := by
 rcases d21 sk msg ctx rnd most with h | ⟨j, _, _, _, _, h5, h6⟩
 ·rw [h.1]
  exact ⟨by simp, fun z hz => by simp at hz⟩
 ·rw [h6]
  exact ⟨Nat.le_of_eq (d5s h5).1, (d5s h5).2⟩
theorem d22 (sk msg ctx rnd : List Int) {a b : Int} (h1 : 1 ≤ a) (h2 : a ≤ b) : b3C sk msg ctx rnd b = b3C sk msg ctx rnd a ∨ (b3C sk msg ctx rnd a).2 = 162 := by
 unfold b3C
 by_cases c1 : ¬ d2F sk
 ·rw [a1r c1, a1r c1]; exact .inl rfl
 ·rw [a0b c1, a0b c1]
  by_cases c2 : 255 < ctx.length
  ·rw [if_pos c2, if_pos c2]; exact .inl rfl
  ·rw [if_neg c2, if_neg c2, if_neg (by omega), if_neg (by omega)]
   by_cases c3 : ¬ a3L (X5 sk 0 32)
   ·rw [a1r c3, a1r c3]; exact .inl rfl
   ·rw [a0b c3, a0b c3]
    have h := c6K (d7q sk msg ctx rnd) (b.toNat - a.toNat) a.toNat 0
    rw [show a.toNat + (b.toNat - a.toNat) = b.toNat by omega] at h
    exact h.imp id fun h => by rw [h]
end Go.Ax.TryP
set_option linter.unusedVariables false
namespace Go.Ax.TryP
open Go.Proofs
theorem d5O : T5 () = some true := d8 (ks := a6E) (rs := a6F) (x := ()) trivial trivial
theorem d7z {l : List (List Int)} (hl : c6I l) : a9n (l, ()) = some (decide (∀ b ∈ l, b.length ≤ 6000)) :=
 d8 (ks := a1V) (rs := a75) (x := (l, ())) ⟨d3n.2 hl, trivial⟩ trivial
theorem d0u (xi : List Int) : (d8c xi ∧ a3L (c2n xi)) ∧ d3t xi = (pkD xi, skD xi, 0) ∨ d3t xi = ([], [], 130) := by
 unfold d3t
 by_cases h : d8c xi ∧ a3L (c2n xi)
 ·rw [a1r h]; exact .inl ⟨h, rfl⟩
 ·rw [a0b h]; exact .inr rfl
theorem c9Q {a : Int} (h : 0 ≤ a ∧ a ≤ 255) : IntKind.i64.wrap ((1 : Int) + Int.tmod (IntKind.i64.wrap a) 12) = 1 + a % 12 := by
 rw [c7 (x := a) (by omega) (by omega), a97 h.1, c7 (by omega) (by omega)]
theorem b91 : ∀ x r, b0g x = some r → ∃ N, Z0 N x = some r := by
 refine d9 (ks := V6) (rs := a6C) fun x hw hq => ⟨0, ?_⟩
 obtain ⟨(xi : List Int), (rnd : List Int), (msg : List Int), (a : Int), (b : Int), u⟩ := x
 have hxi : xi.length = 32 ∧ bytes xi := c3H.1 hw.1
 have hrnd : rnd.length = 32 ∧ bytes rnd := c3H.1 hw.2.1
 have hmsg : msg.length ≤ maxLen ∧ bytes msg := M8.1 hw.2.2.1
 have ha : 0 ≤ a ∧ a ≤ 255 := U6.1 hw.2.2.2.1
 have hb : 0 ≤ b ∧ b ≤ 255 := U6.1 hw.2.2.2.2.1
 show Z0 0 (xi, rnd, msg, a, b, u) = some true
 unfold Z0
 dsimp only
 rw [c5m hxi, Option.bind_some, show T5 () = some true from d5O, Option.bind_some, if_neg (by simp)]
 rcases d0u xi with ⟨-, hk⟩ | hk
 ·rw [hk]
  dsimp only
  rw [if_neg (by simp), d7z ⟨mB (by simp), fun zs hzs => by rw [List.mem_singleton.1 hzs]; exact hmsg⟩, Option.bind_some]
  by_cases hf : ∀ c ∈ [msg], c.length ≤ 6000
  ·rw [decide_eq_true hf, if_neg (by simp), c9Q ha, c9Q hb]
   have hs := d5u xi
   have hsk : (skD xi).length ≤ maxLen ∧ bytes (skD xi) := ⟨mB (by rw [hs.1]; omega), hs.2⟩
   have e := fun (m : Int) (h : 1 ≤ m ∧ m ≤ 12) => d5L (most := m) hsk hmsg d6u hrnd (by omega)
   have hm := fun (m n : Int) (h1 : 1 ≤ m) (h2 : m ≤ n) => d22 (skD xi) msg [] rnd h1 h2
   have hB := fun m : Int => d8y (skD xi) msg [] rnd m
   generalize b3C (skD xi) msg [] rnd = S at e hm hB
   generalize hM : (if 1 + b % 12 < 1 + a % 12 then 1 + b % 12 else 1 + a % 12) = M
   generalize hX : (if 1 + b % 12 > 1 + a % 12 then 1 + b % 12 else 1 + a % 12) = X
   have h1 : 1 ≤ M ∧ M ≤ X ∧ X ≤ 12 ∧ (1 + a % 12 = 1 + b % 12 → X = M) := by
    subst hM hX
    split <;> split <;> omega
   rw [e M (by omega), Option.bind_some, e X (by omega), Option.bind_some]
   have hq := hm M X h1.1 h1.2.1
   have b1 := hB M
   have b2 := hB X
   have hcut : ∀ {l : List Int}, l.length ≤ 3309 ∧ bytes l → l.length ≤ 1000000 ∧ ∀ z ∈ l, 0 ≤ z ∧ z ≤ 255 := fun h => ⟨by omega, h.2⟩
   by_cases c0 : (S M).2 = 0
   ·have hq := hq.resolve_right (by omega)
    rw [if_pos c0, hq, if_pos c0, d3F (hcut b1) (hcut b1), Option.bind_some, decide_eq_true (p := (S M).1 = (S M).1) rfl]
    rfl
   ·rw [if_neg c0]
    by_cases c1 : (S M).2 = 162
    ·rw [if_pos c1]
     by_cases c2 : 1 + a % 12 ≠ 1 + b % 12
     ·rw [if_pos c2]
     ·rw [if_neg c2, h1.2.2.2 (by omega), c1]
      rfl
    ·have hq := hq.resolve_right c1
     rw [if_neg c1, hq]
     exact congrArg some (decide_eq_true rfl)
  ·rw [decide_eq_false hf, if_pos (by simp), Option.bind_some]
   rfl
 ·rw [hk]
  dsimp only
  rw [if_pos (by decide), Option.bind_some]
  rfl
end Go.Ax.TryP
namespace Go.Ax.TryP
open Go.Proofs
theorem b84 : c8 Try.prog 62 a4H := c1K (b9O) c6x
theorem b5f : c8 Try.prog 75 a2q := b03 (a9W) b48
theorem b97 : c8 Try.prog 76 a46 := b40 (b3w) b9Z
theorem b6X : c8 Try.prog 77 a2W := b2a (b02) b6Q
theorem b5a : c8 Try.prog 79 a2l := b0F (a9v) b44
theorem c24 : c8 Try.prog 78 a7C := b8h (b6x b5a) c2Z
theorem b0v : c8 Try.prog 74 X1 := b4P (b3j b97 b6X c24) b9Y
theorem b2u : c8 Try.prog 73 a0s := a8X (a74 b5f b0v) b2j
theorem b0w : c8 Try.prog 70 X2 := b41 (b3x b2u) b90
theorem a83 : c8 Try.prog 63 R3 := b3k (b1W b0w) b8r
theorem b8z : c8 Try.prog 71 a3W := b3n (b1Z) b8u
theorem b2t : c8 Try.prog 72 a0r := a8W (a73 b0v) b2i
theorem a84 : c8 Try.prog 64 R4 := b3m (b1Y b8z b84 b2t) b8t
theorem b8y : c8 Try.prog 65 a3V := b3l (b1X b0w) b8s
theorem a4B : c8 Try.prog 42 E2 := b8g (b6w b84 a83 a84 b8y) c2Y
theorem a82 : c8 Try.prog 13 R1 := c4q (c2H a4B) d0J
theorem c6Q : c8 Try.prog 17 b09 := c6g (c4x) d2N
theorem a7z : c8 Try.prog 16 N3 := c1N (b9R) c6z
theorem c6O : c8 Try.prog 44 b07 := c1x (b9z) c6r
theorem J1 : c8 Try.prog 45 i7 := b9y (b70) c4C
theorem b6W : c8 Try.prog 15 a2V := b1J (b0O a4B c6O J1) b6N
theorem b95 : c8 Try.prog 66 a44 := b4p (b2Y J1) b9W
theorem a5R : c8 Try.prog 57 I8 := a4c (a3C b95) a5Q
theorem a4A : c8 Try.prog 47 E1 := b7V (b58 a5R) c2U
theorem a3A : c8 Try.prog 60 A3 := b9D (b76 J1) c4E
theorem c18 : c8 Try.prog 69 a5Z := b5S (b4h) c1V
theorem b3R : c8 Try.prog 59 a1z := b75 (b6h a3A c18) c2X
theorem b5c : c8 Try.prog 32 a2n := c2A (c1s a4A b3R a3A J1) c75
theorem a8b : c8 Try.prog 38 P8 := b7N (b5Z a3A) c2T
theorem a95 : c8 Try.prog 21 U0 := c2v (c1k J1) c72
theorem a6O : c8 Try.prog 34 J6 := b0T (a9N b5c a8b a95) b47
theorem c4K : c8 Try.prog 61 a9a := b9n (b7H a3A) c4B
theorem a8c : c8 Try.prog 57 P9 := a5K (a5j c4K) a78
theorem b5b : c8 Try.prog 36 a2m := c2w (c1o a4A b3R J1 a3A a8c) c73
theorem a7y : c8 Try.prog 19 N2 := b1Q (b0U a6O b5b) b6P
theorem b81 : c8 Try.prog 48 a4E := c1y (b9A) c6s
theorem b5d : c8 Try.prog 20 a2o := b0N (a9H a4A b81) b45
theorem b82 : c8 Try.prog 49 a4F := c1z (b9B) c6t
theorem b80 : c8 Try.prog 23 a4D := c1t (b9u a4A b82) c6q
theorem c2b : c8 Try.prog 67 a52 := b6d (b4u J1) c1X
theorem a6N : c8 Try.prog 57 J5 := a4U (a4d c2b) a6J
theorem b3P : c8 Try.prog 50 a1x := b7G (b5W a6N) c2S
theorem b0u : c8 Try.prog 24 X0 := b4o (b2W b3P b82) b9V
theorem c23 : c8 Try.prog 46 a7B := b7W (b59 a83 a84) c2V
theorem d0S : XOk Try.prog 14 b7d := c4t (c2J) d0K
theorem b2s : XOk Try.prog 18 a0q := c1G (b9H a7z c23 d0S) c6w
theorem b83 : c8 Try.prog 8 a4G := c1E (b9E a82 c6Q a7z b6W a7y a95 b5d b80 b0u b2s) c6u
theorem c2c : c8 Try.prog 26 a53 := c2I (c1H a82) c77
theorem b3Q : c8 Try.prog 35 a1y := b7Z (b6b) c2W
theorem b3B : c8 Try.prog 58 a1q := a9L (a8I) b3z
theorem a3F : c8 Try.prog 57 B4 := a2A (a1N b3B) a3E
theorem a0m : c8 Try.prog 29 o4 := b1K (b0R b3Q a3F) b6O
theorem b2q : c8 Try.prog 30 a0o := c1r (b9r b3P) c6p
theorem b5e : c8 Try.prog 31 a2p := b0S (a9M) b46
theorem b8Z : c8 Try.prog 33 a4C := c1l (b9k a4B) c6n
theorem c19 : c8 Try.prog 37 a50 := c2B (c1u J1) c76
theorem c4L : c8 Try.prog 68 a9b := b9C (b74 J1 b81) c4D
theorem a4j : c8 Try.prog 53 D2 := b2S (b1F c4L) b8p
theorem c2a : c8 Try.prog 39 a51 := b6c (b4t a4j) c1W
theorem b2r : c8 Try.prog 41 a0p := b6r (b4N a7z b80 a82) c1Y
theorem c6S : c8 Try.prog 40 b1b := c1O (b9S) c6A
theorem c6P : c8 Try.prog 10 b08 := c1F (b9G a82 c2c a0m b2q b5e b8Z b5c a6O b3Q a8b c19 b5b c2a b2r c6S b2s) c6v
theorem c6R : c8 Try.prog 6 b1a := c1M (b9Q b83 c6P) c6y
theorem c8h : c8 Try.prog 7 b3X := c2O (c1L) c79
theorem c8g : XOk Try.prog 51 b3W := c2L (c1J a0m b2q) c78
theorem d0T : XOk Try.prog 25 b7e := c4u (c2K a0m c8g) d0L
theorem c6N : c8 Try.prog 52 b06 := c1p (b9q a4B a0m) c6o
theorem c8f : c8 Try.prog 54 b3V := c2z (c1q b5c a8b b5b) c74
theorem b94 : c8 Try.prog 55 a43 := b4m (b2T a4j a95) b9U
theorem b8x : c8 Try.prog 56 a3U := b2X (b1I) b8q
theorem b96 : XOk Try.prog 27 a45 := b4O (b3i c6Q a7z c6N a7y a4j b2r b8Z c8f a95 b2q b0u c19 b94 b8x) b9X
theorem d0R : c8 Try.prog 9 b7c := c4p (c2G c2c a82 d0T b2s b96) d0I
theorem c4M : c8 Try.prog 11 a9c := b9T (b8n) c4F
noncomputable abbrev b9b : Sig := ⟨[.xs b8 32, .xs b8 32, .sl b8, .int .u8, .int .u8], [.bool], b0g⟩
theorem s_law16_DsaTries : c8 Try.prog 5 b9b := b42 (b3y b83 c6R c8h d0R c4M) b91
end Go.Ax.TryP
