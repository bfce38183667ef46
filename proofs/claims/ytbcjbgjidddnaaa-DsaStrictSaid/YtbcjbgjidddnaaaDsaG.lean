/- A part of the proof: DgQ14, DgW2. -/
import Derived.Test.YtbcjbgjidddnaaaDsaF
set_option linter.unusedVariables false
namespace Go.Ax.TryP
open Go.Proofs
theorem c7K {c w e l : List Int} (h : c4X (htD c w e l) 6 ≤ 55) : ∃ M : Nat, M ≤ 55 ∧ (b40 (hrow c w e l) 55).1.getD 60 0 = M ∧ ∀ j, M ≤ j → j < 55 → (b40 (hrow c w e l) 55).1.getD j 0 = 0 := by
 have ha := d1r c w e l
 have h6 : (hrow c w e l).length / 256 = 6 := by rw [c0b c w e l]
 have hle : ((a7A (hrow c w e l) 6).length : Int) ≤ 55 := by show ((a7A (N2 (fun r => (htD c w e l r).1) 6) 6).length : Int) ≤ 55; omega
 refine ⟨(a7A (hrow c w e l) 6).length, by omega, ?_, fun j h1 h2 => ?_⟩
 ·unfold b40
  rw [h6, if_neg (by omega), if_neg (by omega)]
  dsimp only
  have hl : (a7A (hrow c w e l) 6 ++ List.replicate ((55 : Int).toNat - (a7A (hrow c w e l) 6).length) (0 : Int)).length = 55 := by
   rw [List.length_append, List.length_replicate]; omega
  rw [List.getD_eq_getElem?_getD, List.getElem?_append_right (by rw [hl]; omega), hl]
  rfl
 ·unfold b40
  rw [h6, if_neg (by omega), if_neg (by omega)]
  dsimp only
  rw [List.append_assoc, List.getD_eq_getElem?_getD, List.getElem?_append_right h1, List.getElem?_append_left (by rw [List.length_replicate]; omega), List.getElem?_replicate, if_pos (by omega)]
  rfl
theorem d5R {ct c s e l y w : List Int} (hct : ct.length = 48) (ho : c2q c s e l y w) : T6 (d4q ct c s e l y w) 3248 61 = (b40 (hrow c w e l) 55).1 := by
 have hl := (c4r ho.2.2).2
 unfold T6 d4q
 rw [List.drop_left' (d5q hct c s y 5), List.take_of_length_le (by omega)]
theorem c0a {b : List Int} {a n j : Nat} (hj : j < n) : (T6 b a n).getD j 0 = b.getD (a + j) 0 := by
 unfold T6
 rw [List.getD_eq_getElem?_getD, List.getD_eq_getElem?_getD, List.getElem?_take, if_pos hj, List.getElem?_drop]
theorem d8n {b : List Int} {M j : Nat} (hl : b.length = 61) (h1 : b.getD 60 0 = M) (h2 : M ≤ j) (h3 : j < 55) (h4 : b.getD j 0 ≠ 0) : (a8b 6 55 b).2 ≠ 0 := by
 unfold a8b
 rw [if_neg (by rw [hl]; decide), if_neg]
 ·decide
 ·rintro ⟨-, -, hz⟩
  refine h4 (hz j ?_ h3)
  show (b.getD (55 + 5) 0).toNat ≤ j
  rw [show 55 + 5 = 60 from rfl, h1]
  omega
theorem d0U {pk msg sig : List Int} (h1 : pk.length = 1952) (h2 : sig.length = 3309) (h3 : (hV sig).2 ≠ 0) : d5n pk msg [] sig = 70 := by
 unfold d5n
 rw [if_neg (fun h => h h1), if_neg (by decide), if_neg (fun h => h h2)]
 by_cases h : ¬ d7a sig
 ·rw [a3U h]
 ·rw [a2q h, if_pos h3]
theorem b8p : ∀ x r, a8t x = some r → ∃ N, T1 N x = some r := by
 refine d9 (ks := R3) (rs := a5w) fun x hw hq => ⟨0, ?_⟩
 obtain ⟨(xi : List Int), (rnd : List Int), (msg : List Int), (a : Int), (b : Int), u⟩ := x
 have hxi : xi.length = 32 ∧ bytes xi := c3D.1 hw.1
 have hrnd : rnd.length = 32 ∧ bytes rnd := c3D.1 hw.2.1
 have hmsg : msg.length ≤ maxLen ∧ bytes msg := M8.1 hw.2.2.1
 have ha : 0 ≤ a ∧ a ≤ 255 := U8.1 hw.2.2.2.1
 have hb : 0 ≤ b ∧ b ≤ 255 := U8.1 hw.2.2.2.2.1
 show T1 0 (xi, rnd, msg, a, b, u) = some true
 unfold T1
 dsimp only
 rw [c5e hxi, Option.bind_some, show T9 () = some true from d5D, Option.bind_some, if_neg (by simp)]
 rcases d0h xi with ⟨-, hk⟩ | hk
 ·rw [hk]
  dsimp only
  rw [if_neg (by simp), d7k ⟨mB (by simp), fun zs hzs => by rw [List.mem_singleton.1 hzs]; exact hmsg⟩, Option.bind_some]
  by_cases hf : ∀ c ∈ [msg], c.length ≤ 6000
  ·rw [decide_eq_true hf, if_neg (by simp)]
   have hs := d5i xi
   have hp := c9k xi
   have hsk : (skD xi).length ≤ maxLen ∧ bytes (skD xi) := ⟨mB (by rw [hs.1]; omega), hs.2⟩
   have e := d5A (most := 30) hsk hmsg d49 hrnd (by omega)
   rw [e, Option.bind_some]
   rcases d2O (skD xi) msg [] rnd 30 with ⟨g1, g2, -⟩ | ⟨k, -, -, -, -, h5, h6⟩
   ·rw [if_pos g2, g1]
    rfl
   ·rw [h6]
    dsimp only
    obtain ⟨hl, hby⟩ := d8g h5
    have hc : T6 (d5g (skD xi) msg [] rnd k) 3248 61 = (b40 (hrow (cK (skD xi) msg [] rnd k) (wK (skD xi) msg [] rnd k) (eE (skD xi)) (lE (skD xi))) 55).1 := d5R (d1y _ _ _ _ _).1 h5
    obtain ⟨M, m1, m2, m3⟩ := c7K h5.2.2
    rw [← hc] at m2 m3
    generalize d5g (skD xi) msg [] rnd k = sig at hl hby hc m2 m3 ⊢
    rw [c0a (by omega)] at m2
    have m3' : ∀ j, M ≤ j → j < 55 → sig.getD (3248 + j) 0 = 0 := fun j h1 h2 => by
     have := m3 j h1 h2
     rwa [c0a (by omega)] at this
    have m2 : sig.getD 3308 0 = M := m2
    rw [if_neg (by simp), if_neg (by rw [hl]; decide), if_pos (by decide), if_pos (by rw [hl]; decide), if_pos (by rw [hl]; decide), m2, c7 (x := (M : Int)) (by omega) (by omega)]
    by_cases c1 : (M : Int) ≥ 55
    ·rw [if_pos c1, decide_eq_true (show (M : Int) ≤ 55 by omega)]
    ·rw [if_neg c1]
     by_cases c2 : b = 0
     ·rw [if_pos c2, decide_eq_true (show (M : Int) ≤ 55 by omega)]
     ·rw [if_neg c2, c7 (x := (55 : Int) - (M : Int)) (by omega) (by omega), if_neg (by omega), c7 (x := (3248 : Int) + (M : Int)) (by omega) (by omega), c7 (x := a) (by omega) (by omega), a96 ha.1]
      have hd : 0 < (55 : Int) - (M : Int) := by omega
      have q1 := Int.emod_nonneg a (show (55 : Int) - (M : Int) ≠ 0 by omega)
      have q2 := Int.emod_lt_of_pos a hd
      generalize a % ((55 : Int) - (M : Int)) = d at q1 q2 ⊢
      obtain ⟨d, rfl⟩ : ∃ n : Nat, d = n := ⟨d.toNat, by omega⟩
      rw [c7 (x := (3248 : Int) + (M : Int) + (d : Int)) (by omega) (by omega), show (3248 : Int) + (M : Int) + (d : Int) = ((3248 + (M + d) : Nat) : Int) by omega, Int.toNat_natCast, hl, if_pos (by omega), if_pos (by omega), if_pos (by omega), if_pos (by omega), if_pos (by omega), if_pos (by omega), m3' (M + d) (by omega) (by omega)]
      obtain ⟨v, rfl⟩ : ∃ n : Nat, b = n := ⟨b.toNat, by omega⟩
      have hx : b9d IntKind.u8 0 (v : Int) = (v : Int) := by
       have h := c0d (k := .u8) rfl (m := 0) (n := v) (by decide) (by show v < 2 ^ 8; omega)
       rw [Nat.zero_xor] at h
       exact h
      rw [hx]
      have hset : ∀ z ∈ sig.set (3248 + (M + d)) (v : Int), 0 ≤ z ∧ z ≤ 255 := fun z hz => by
       rcases List.mem_or_eq_of_mem_set hz with hz | hz
       ·exact hby z hz
       ·omega
      have hlen : (sig.set (3248 + (M + d)) (v : Int)).length = 3309 := by rw [List.length_set, hl]
      have hV : (hV (sig.set (3248 + (M + d)) (v : Int))).2 ≠ 0 := by
       refine d8n (M := M) (j := M + d) (Q8 (by omega)) ?_ (by omega) (by omega) ?_
       ·rw [c0a (by omega), List.getD_eq_getElem?_getD, List.getElem?_set_ne (by omega), ← List.getD_eq_getElem?_getD]
        exact m2
       ·rw [c0a (by omega), List.getD_eq_getElem?_getD, List.getElem?_set_self (by omega)]
        exact c2
      rw [c0s ⟨mB (by rw [hp.1]; omega), hp.2⟩ hmsg d49 ⟨mB (by omega), hset⟩, Option.bind_some, d0U hp.1 hlen hV]
      rfl
  ·rw [decide_eq_false hf, if_pos (by simp), Option.bind_some]
   rfl
 ·rw [hk]
  dsimp only
  rw [if_pos (by decide), Option.bind_some]
  rfl
end Go.Ax.TryP
namespace Go.Ax.TryP
open Go.Proofs
noncomputable abbrev b7a : Sig := ⟨[.xs b8 32, .xs b8 32, .sl b8, .int .u8, .int .u8], [.bool], a8t⟩
theorem s_law16_DsaStrict : c8 Try.prog 4 b7a := b3v (b2c b8Y c6F c75 d0D b8Z) b8p
end Go.Ax.TryP
