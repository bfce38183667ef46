/- A part of the proof: CpQ6, CpQ7, CpQ8, CpQ9, CpQ10, CpQ11, CpQ12, CpQ13, CpQ14, CpW. -/
import Derived.Test.YtlgnkjimalifhaaCppA
set_option linter.unusedVariables false
namespace Go.Ax.TryP
open Go.Proofs
theorem c9v (n : Int) (w : Nat) : a74 n (w + 1) = a74 (n / 256) w ++ [n % 256] := by
 unfold a74
 rw [List.range_succ, List.map_append]
 congr 1
 ·refine List.map_congr_left fun i hi => ?_
  rw [List.mem_range] at hi
  have e : 8 * (w + 1 - 1 - i) = 8 + 8 * (w - 1 - i) := by omega
  rw [e, Int.pow_add, show (2 : Int) ^ 8 = 256 by decide, Int.ediv_ediv_of_nonneg (by decide)]
 ·simp
theorem b9u (a b : List Int) : a7b (a ++ b) = b.foldl (fun a z => a * 256 + z) (a7b a) := by unfold a7b; rw [List.foldl_append]
theorem b3Z : ∀ (w : Nat) (n : Int), 0 ≤ n → n < 256 ^ w → a7b (a74 n w) = n
 | 0, n, h0, h1 => by
  have : n = 0 := by simp at h1; omega
  subst this; rfl
 | w + 1, n, h0, h1 => by
  have h2 : n / 256 < 256 ^ w := by
   rw [Int.pow_succ] at h1
   exact Int.ediv_lt_of_lt_mul (by decide) h1
  rw [c9v, b9u, b3Z w (n / 256) (by omega) h2]
  simp only [List.foldl_cons, List.foldl_nil]
  omega
theorem c55 : ∀ x r, a8d x = some r → ∃ N, a5A N x = some r := by
 refine c8 (ks := a1l) (rs := a60) fun x hw hq => ⟨0, ?_⟩
 obtain ⟨(c : Cp), u⟩ := x
 show a5A 0 (c, u) = some (d4C c)
 unfold a5A d4C
 dsimp only
 by_cases h1 : ((c.2.2.2.2.2.2.1.length : Nat) : Int) > 9000
 ·rw [if_pos h1, decide_eq_true (show 9000 < c.2.2.2.2.2.2.1.length by omega)]; rfl
 rw [if_neg h1, decide_eq_false (show ¬ 9000 < c.2.2.2.2.2.2.1.length by omega)]
 by_cases h2 : ((c.2.2.2.2.2.2.2.1.length : Nat) : Int) > 9000
 ·rw [if_pos h2, decide_eq_true (show 9000 < c.2.2.2.2.2.2.2.1.length by omega)]; rfl
 rw [if_neg h2, decide_eq_false (show ¬ 9000 < c.2.2.2.2.2.2.2.1.length by omega)]
 by_cases h3 : ((c.2.2.2.2.2.2.2.2.1.length : Nat) : Int) > 9000
 ·rw [if_pos h3, decide_eq_true (show 9000 < c.2.2.2.2.2.2.2.2.1.length by omega)]; rfl
 rw [if_neg h3, decide_eq_false (show ¬ 9000 < c.2.2.2.2.2.2.2.2.1.length by omega)]
 simp only [Bool.false_or]
 exact congrArg some (decide_eq_decide.2 (by omega))
theorem d3a {c : Cp} (h : b3D c) : a8d (c, ()) = some (d4C c) :=
 c7 (ks := a1l) (rs := a60) (x := (c, ())) ⟨a9u.2 h, trivial⟩ trivial
end Go.Ax.TryP
set_option linter.unusedVariables false
namespace Go.Ax.TryP
open Go.Proofs
theorem c86 : maxLen = 9223372036854775807 := by decide
theorem b80 (c : Cp) : (c.1, c.2.1, c.2.2.1, c.2.2.2.1, c.2.2.2.2.1, c.2.2.2.2.2.1, c.2.2.2.2.2.2.1, c.2.2.2.2.2.2.2.1, c.2.2.2.2.2.2.2.2.1, c.2.2.2.2.2.2.2.2.2.1, ()) = c := rfl
def c5T (r : List Int) : Prop := r.length ≤ 100000 ∧ bytes r
theorem c1P {l : List (List Int)} (h : ∀ r ∈ l, c5T r) (hl : l.length ≤ 8) : (l.length ≤ 1000 ∧ l.flatten.length ≤ 1000000) ∧ c1O l := by
 have hM := c86
 have key : ∀ (l : List (List Int)), (∀ r ∈ l, c5T r) → l.flatten.length ≤ 100000 * l.length := by
  intro l
  induction l with
  | nil => intro _; simp
  | cons r l ih =>
   intro h
   have h1 := (h r (by simp)).1
   have h2 := ih fun r hr => h r (by simp [hr])
   simp only [List.flatten_cons, List.length_append, List.length_cons]
   omega
 have := key l h
 exact ⟨⟨by omega, by omega⟩, by omega, fun r hr => ⟨by have := (h r hr).1; omega, (h r hr).2⟩⟩
theorem c16 {l : List (List Int)} (h : ∀ r ∈ l, c5T r) (hl : l.length ≤ 8) : q9 (l, ()) = some l.flatten := b5A (c1P h hl).1 (c1P h hl).2
theorem E5 {a b : List Int} (ha : bytes a) (hb : bytes b) : bytes (a ++ b) := fun z hz => (List.mem_append.1 hz).elim (ha z) (hb z)
theorem d49 (n : Int) {w : Nat} (hw : w ≤ 8) : c5T (a74 n w) := ⟨by rw [D9]; omega, K9 n w⟩
theorem c8Y {c : Cp} (h : a0X c = true) : 1 ≤ c.2.2.2.2.2.2.1.length ∧ c.2.2.2.2.2.2.1.length ≤ 68 := by
 unfold a0X at h
 simp only [Bool.and_eq_true, decide_eq_true_eq] at h
 omega
theorem b8l : ∀ x r, U6 x = some r → ∃ N, V3 N x = some r := by
 refine c8 (ks := I9) (rs := a1R) fun x hw hq => ⟨0, ?_⟩
 obtain ⟨(c : Cp), u⟩ := x
 have hc : b3D c := a9u.1 hw.1
 have hc2 := hc
 obtain ⟨_, _, _, _, _, _, _, _, h9, _⟩ := hc2
 have hM := c86
 show V3 0 (c, u) = some (T8 c)
 unfold V3 T8
 dsimp only
 simp only [b80]
 rw [c3F hc, Option.bind_some]
 cases a0X c with
 | false => rfl
 | true =>
  rw [if_pos rfl, Bool.true_and]
  rw [b7 (x := ((c.2.2.2.2.2.2.2.2.1.length : Nat) : Int) - 32) (by omega) (by omega)]
  by_cases h1 : ((c.2.2.2.2.2.2.2.1.length : Nat) : Int) = 1088
  ·rw [if_pos h1]
   by_cases h2 : ((c.2.2.2.2.2.2.2.2.1.length : Nat) : Int) - 32 ≥ 1
   ·rw [if_pos h2]
    exact congrArg some (decide_eq_decide.2 (by omega))
   ·rw [if_neg h2]
    exact congrArg some (decide_eq_false (by omega)).symm
  ·rw [if_neg h1]
   exact congrArg some (decide_eq_false (by omega)).symm
theorem c3G {c : Cp} (h : b3D c) : U6 (c, ()) = some (T8 c) :=
 c7 (ks := I9) (rs := a1R) (x := (c, ())) ⟨a9u.2 h, trivial⟩ trivial
theorem c0e : ∀ x r, a0a x = some r → ∃ N, a0d N x = some r := by
 refine c8 (ks := M2) (rs := a2p) fun x hw hq => ⟨0, ?_⟩
 obtain ⟨(c : Cp), u⟩ := x
 have hc : b3D c := a9u.1 hw.1
 show a0d 0 (c, u) = some (if c8q c = true then 0 else 230)
 unfold a0d c8q
 dsimp only
 simp only [b80]
 rw [c3G hc, Option.bind_some]
 cases T8 c with
 | false => rfl
 | true =>
  rw [if_neg (by simp), Bool.true_and]
  by_cases h : c.2.2.2.2.2.2.2.2.2.1.length = 3309
  ·rw [if_neg (by omega), if_pos (decide_eq_true h)]
  ·rw [if_pos (by omega), if_neg (by simp [h])]
theorem c6N {c : Cp} (h : b3D c) : a0a (c, ()) = some (if c8q c = true then 0 else 230) :=
 c7 (ks := M2) (rs := a2p) (x := (c, ())) ⟨a9u.2 h, trivial⟩ trivial
theorem d0x {c : Cp} (hc : b3D c) (h : c.2.2.2.2.2.2.1.length ≤ 60000) : c5T (a5I c) := by
 have hc2 := hc
 obtain ⟨_, _, _, _, _, _, h7, _⟩ := hc2
 unfold a5I
 refine ⟨?_, ?_⟩
 ·simp only [List.length_append, D9, List.length_cons, List.length_nil]; omega
 ·exact E5 (E5 (E5 (E5 (E5 (E5 (c5a _ _) (K9 _ _)) (K9 _ _)) (K9 _ _)) (K9 _ _)) (K9 _ _)) h7.2
theorem c0g : ∀ x r, a0b x = some r → ∃ N, a2t N x = some r := by
 refine c8 (ks := M5) (rs := M6) fun x hw hq => ⟨0, ?_⟩
 obtain ⟨(c : Cp), u⟩ := x
 have hc : b3D c := a9u.1 hw.1
 have hc2 := hc
 obtain ⟨h1, h2, h3, h4, h5, h6, h7, h8, h9, h10⟩ := hc2
 obtain ⟨q1, q2, q3⟩ : c.2.2.2.2.2.2.1.length ≤ 60000 ∧ c.2.2.2.2.2.2.2.1.length ≤ 60000 ∧ c.2.2.2.2.2.2.2.2.1.length ≤ 60000 := hq
 unfold a2t
 dsimp only
 simp only [b80]
 rw [c9p hc q1, Option.bind_some]
 have w16 : IntKind.u16.wrap ((c.2.2.2.2.2.2.2.2.1.length : Nat) : Int) = (c.2.2.2.2.2.2.2.2.1.length : Int) := by rw [b7t]; omega
 rw [w16, d2t (by omega), Option.bind_some, c16 ?_ (by simp), Option.bind_some]
 ·unfold t8
  simp only [List.flatten_cons, List.flatten_nil, List.append_nil, List.append_assoc]
 ·intro r hr
  simp only [List.mem_cons, List.not_mem_nil, or_false] at hr
  rcases hr with rfl | rfl | rfl | rfl
  ·exact d0x hc q1
  ·exact ⟨by omega, h8.2⟩
  ·exact d49 _ (by omega)
  ·exact ⟨by omega, h9.2⟩
theorem c6Q {c : Cp} (h : b3D c) (q : c.2.2.2.2.2.2.1.length ≤ 60000 ∧ c.2.2.2.2.2.2.2.1.length ≤ 60000 ∧ c.2.2.2.2.2.2.2.2.1.length ≤ 60000) : a0b (c, ()) = some (t8 c) :=
 c7 (ks := M5) (rs := M6) (x := (c, ())) ⟨a9u.2 h, trivial⟩ q
theorem b03 {c : Cp} (h : T8 c = true) : a0X c = true ∧ (1 ≤ c.2.2.2.2.2.2.1.length ∧ c.2.2.2.2.2.2.1.length ≤ 68) ∧ c.2.2.2.2.2.2.2.1.length = 1088 ∧ 33 ≤ c.2.2.2.2.2.2.2.2.1.length ∧ c.2.2.2.2.2.2.2.2.1.length ≤ 288 := by
 unfold T8 at h
 simp only [Bool.and_eq_true, decide_eq_true_eq] at h
 exact ⟨h.1, c8Y h.1, h.2.1, h.2.2⟩
theorem b3R {c : Cp} (hc : b3D c) (h : T8 c = true) : c5T (t8 c) ∧ (t8 c).length ≤ 2000 := by
 obtain ⟨h1, h2, h3, h4, h5⟩ := b03 h
 have hc2 := hc
 obtain ⟨_, _, _, _, _, _, _, g8, g9, _⟩ := hc2
 have hs := d0x hc (by omega)
 have hl : (a5I c).length ≤ 100 := by
  unfold a5I
  simp only [List.length_append, D9, List.length_cons, List.length_nil]; omega
 have hl2 : (t8 c).length ≤ 2000 := by
  unfold t8
  simp only [List.length_append, D9]; omega
 exact ⟨⟨by omega, E5 (E5 (E5 hs.2 g8.2) (K9 _ _)) g9.2⟩, hl2⟩
theorem d0N : (List.set (List.set (List.set (List.set (List.set (List.set (List.set (List.set (List.set (List.set (List.set (List.set (List.set (List.set (List.replicate 14 0) 0 (108:Int)) 1 (105:Int)) 2 (118:Int)) 3 (101:Int)) 4 (114:Int)) 5 (121:Int)) 6 (32:Int)) 7 (99:Int)) 8 (97:Int)) 9 (112:Int)) 10 (115:Int)) 11 (117:Int)) 12 (108:Int)) 13 (101:Int)) = titleS := rfl
theorem c7E : c5T titleS := by
 refine ⟨by decide, fun z hz => ?_⟩
 simp only [titleS, List.mem_cons, List.not_mem_nil, or_false] at hz
 omega
theorem c0f : ∀ x r, P3 x = some r → ∃ N, a0e N x = some r := by
 refine c8 (ks := M3) (rs := M4) fun x hw hq => ⟨0, ?_⟩
 obtain ⟨(c : Cp), u⟩ := x
 have hc : b3D c := a9u.1 hw.1
 show a0e 0 (c, u) = some (if T8 c = true then titleS ++ t8 c else [])
 unfold a0e
 dsimp only
 simp only [b80]
 rw [c3G hc, Option.bind_some]
 by_cases h : T8 c = true
 ·obtain ⟨h1, h2, h3, h4, h5⟩ := b03 h
  rw [if_neg (by simp [h]), if_pos h, if_pos (by decide), d0N]
  rw [c6Q hc (by omega), Option.bind_some, c16 ?_ (by simp), Option.bind_some]
  ·simp
  ·intro r hr
   simp only [List.mem_cons, List.not_mem_nil, or_false] at hr
   rcases hr with rfl | rfl
   ·exact c7E
   ·exact (b3R hc h).1
 ·rw [if_pos h, if_neg h]
theorem d1f {c : Cp} (h : b3D c) : P3 (c, ()) = some (if T8 c = true then titleS ++ t8 c else []) :=
 c7 (ks := M3) (rs := M4) (x := (c, ())) ⟨a9u.2 h, trivial⟩ trivial
theorem c2z {c : Cp} (h : c8q c = true) : T8 c = true ∧ c.2.2.2.2.2.2.2.2.2.1.length = 3309 := by
 unfold c8q at h
 simp only [Bool.and_eq_true, decide_eq_true_eq] at h
 exact h
theorem c2R : ∀ x r, a4r x = some r → ∃ N, a2s N x = some r := by
 refine c8 (ks := V1) (rs := V2) fun x hw hq => ⟨0, ?_⟩
 obtain ⟨(c : Cp), u⟩ := x
 have hc : b3D c := a9u.1 hw.1
 have hc2 := hc
 obtain ⟨_, _, _, _, _, _, g7, g8, g9, g10⟩ := hc2
 show a2s 0 (c, u) = some (c4w c)
 unfold a2s c4w
 dsimp only
 simp only [b80]
 rw [c6N hc, Option.bind_some]
 by_cases h : c8q c = true
 ·obtain ⟨k1, k2⟩ := c2z h
  obtain ⟨h1, h2, h3, h4, h5⟩ := b03 k1
  rw [if_pos h, if_neg (by decide)]
  rw [c6Q hc (by omega), Option.bind_some]
  rw [c16 ?_ (by simp), Option.bind_some]
  ·simp [h]
  ·intro r hr
   simp only [List.mem_cons, List.not_mem_nil, or_false] at hr
   rcases hr with rfl | rfl
   ·exact (b3R hc k1).1
   ·exact ⟨by omega, g10.2⟩
 ·rw [if_neg h, if_pos (by decide), if_neg h]
theorem d4y {c : Cp} (h : b3D c) : a4r (c, ()) = some (c4w c) :=
 c7 (ks := V1) (rs := V2) (x := (c, ())) ⟨a9u.2 h, trivial⟩ trivial
end Go.Ax.TryP
set_option linter.unusedVariables false
namespace Go.Ax.TryP
open Go.Proofs
theorem c8X {c : Cp} (h : a0X c = true) : (0 ≤ c.1 ∧ c.1 < 16) ∧ (0 ≤ c.2.1 ∧ c.2.1 < 16) := by
 unfold a0X d2B at h
 simp only [Bool.and_eq_true, decide_eq_true_eq] at h
 exact ⟨h.1, h.2.1⟩
theorem d2l {c : Cp} (hc : b3D c) : (if T8 c = true then titleS ++ t8 c else []).length ≤ maxLen ∧ bytes (if T8 c = true then titleS ++ t8 c else []) := by
 have hM := c86
 by_cases h : T8 c = true
 ·rw [if_pos h]
  obtain ⟨g1, g2⟩ := b3R hc h
  exact ⟨by rw [List.length_append, hM]; have : titleS.length = 14 := rfl; omega, E5 c7E.2 g1.2⟩
 ·rw [if_neg h]
  exact ⟨Nat.zero_le _, fun z hz => by cases hz⟩
theorem d5g {c : Cp} (hc : b3D c) : (c4w c).1.length ≤ maxLen ∧ bytes (c4w c).1 := by
 have hM := c86
 unfold c4w
 by_cases h : c8q c = true
 ·rw [if_pos h]
  obtain ⟨k1, k2⟩ := c2z h
  obtain ⟨g1, g2⟩ := b3R hc k1
  obtain ⟨_, _, _, _, _, _, _, _, _, g10⟩ := hc
  exact ⟨by show (t8 c ++ _).length ≤ _; rw [List.length_append]; omega, E5 g1.2 g10.2⟩
 ·rw [if_neg h]
  exact ⟨Nat.zero_le _, fun z hz => by cases hz⟩
end Go.Ax.TryP
set_option linter.unusedVariables false
namespace Go.Ax.TryP
open Go.Proofs
theorem c4h (b : List Int) (z : Int) : a7b (b ++ [z]) = a7b b * 256 + z := by rw [b9u]; rfl
theorem c49 {b : List Int} {i : Nat} (hi : i < b.length) : b.take (i + 1) = b.take i ++ [b.getD i 0] := by
 rw [List.take_succ_eq_append_getElem hi, List.getD_eq_getElem?_getD, List.getElem?_eq_getElem hi]; rfl
theorem a7r {b : List Int} : ∀ (n : Nat), b.length = n → bytes b → 0 ≤ a7b b ∧ a7b b < 256 ^ n := by
 intro n
 induction n generalizing b with
 | zero => intro h _; have : b = [] := List.eq_nil_of_length_eq_zero h; subst this; exact ⟨Int.le_refl _, by decide⟩
 | succ n ih =>
  intro h hb
  obtain ⟨c, z, rfl⟩ : ∃ c z, b = c ++ [z] := ⟨b.take n, b.getD n 0, by rw [← c49 (by omega), List.take_of_length_le (by omega)]⟩
  rw [List.length_append] at h
  obtain ⟨h1, h2⟩ := ih (b := c) (by simpa using h) (fun y hy => hb y (by simp [hy]))
  have hz := hb z (by simp)
  rw [c4h, Int.pow_succ]
  omega
theorem c4v {n m : Nat} (h : n ≤ m) : (256 : Int) ^ n ≤ 256 ^ m := by
 have := Nat.pow_le_pow_right (n := 256) (by decide) h
 rw [show (256 : Int) = ((256 : Nat) : Int) from rfl, ← Int.natCast_pow, ← Int.natCast_pow]
 exact Int.ofNat_le.2 this
theorem d1T {b : List Int} (hb : bytes b) (hl : b.length ≤ 8) : 0 ≤ a7b b ∧ a7b b ≤ 18446744073709551615 := by
 obtain ⟨h1, h2⟩ := a7r _ rfl hb
 have h3 : (256 : Int) ^ b.length ≤ 256 ^ 8 := c4v hl
 have h4 : (256 : Int) ^ 8 = 18446744073709551616 := by decide
 omega
theorem b62 {b : List Int} (hb : bytes b) (i : Nat) : bytes (b.take i) := fun z hz => hb z (List.mem_of_mem_take hz)
theorem c8a {b : List Int} (hb : bytes b) (i : Nat) : bytes (b.drop i) := fun z hz => hb z (List.mem_of_mem_drop hz)
theorem c8w {b : List Int} (hb : bytes b) {i : Nat} (hi : i < b.length) (hl : b.length ≤ 8) : 0 ≤ a7b (b.take i) ∧ a7b (b.take i) < 72057594037927936 := by
 obtain ⟨h1, h2⟩ := a7r i (by rw [List.length_take]; omega) (b62 hb i)
 have h3 : (256 : Int) ^ i ≤ 256 ^ 7 := c4v (by omega)
 have h4 : (256 : Int) ^ 7 = 72057594037927936 := by decide
 omega
theorem d5p {x z : Int} (hx : 0 ≤ x ∧ x < 72057594037927936) (hz : 0 ≤ z ∧ z ≤ 255) : ior .u64 (b1X .u64 x 8) z = x * 256 + z := by
 obtain ⟨x, rfl⟩ : ∃ m : Nat, x = m := ⟨x.toNat, by omega⟩
 obtain ⟨z, rfl⟩ : ∃ m : Nat, z = m := ⟨z.toNat, by omega⟩
 have e := c2v (k := .u64) rfl (m := x) (s := 8) (by decide) (by show x * 2 ^ 8 < 2 ^ 64; omega)
 rw [show ((8 : Nat) : Int) = 8 from rfl] at e
 rw [e, c2t (k := .u64) rfl (by show x * 2 ^ 8 < 2 ^ 64; omega) (by show z < 2 ^ 64; omega), Nat.or_comm, c4l (show z < 2 ^ 8 by omega)]
 omega
theorem c2W : ∀ x r, a4u x = some r → ∃ N, a4E N x = some r := by
 refine c8 (ks := X2) (rs := X3) fun x hw hq => ⟨10, ?_⟩
 obtain ⟨(b : List Int), u⟩ := x
 obtain ⟨_, hb⟩ : b.length ≤ maxLen ∧ bytes b := b0K.1 hw.1
 obtain ⟨h1, h2⟩ : 1 ≤ b.length ∧ b.length ≤ 8 := hq
 unfold a4E
 dsimp only
 rw [if_neg (by omega), if_neg (by omega)]
 refine (j6 (F := N8 10) (s := fun i => (a7b (b.take i), b.length, (b.length : Int), (i : Int), b.length, b, ())) (y := (a7b b, ())) b.length rfl ?_ ?_ 10 (by omega)).trans ?_
 ·intro i hi kn
  have hz := c2c hb i
  have hx := c8w hb hi h2
  unfold N8
  dsimp only
  rw [if_pos (by omega), if_pos (by omega), if_pos (by omega), Int.toNat_natCast, if_pos (by omega), c0G hz.1 (by omega), d5p hx hz, b7 (by omega) (by omega), c49 hi, c4h]
  rfl
 ·intro kn
  unfold N8
  dsimp only
  rw [if_neg (by omega), List.take_length]
 ·rfl
theorem d1b {b : List Int} (hb : bytes b) (h : 1 ≤ b.length ∧ b.length ≤ 8) : a4u (b, ()) = some (a7b b, 0) := by
 have hM := c86
 exact c7 (ks := X2) (rs := X3) (x := (b, ())) ⟨(b0K (b := b)).2 ⟨by omega, hb⟩, trivial⟩ h
def c5d (s : Rd) : Prop := s.1.length ≤ 1000000 ∧ bytes s.1
theorem d4g {s : Rd} (h : Kd.wf (.io rdL) s) : s.1.length ≤ maxLen ∧ bytes s.1 := by
 obtain ⟨⟨h1, h2⟩, _⟩ := h
 exact ⟨h1, fun z hz => a0F.1 (h2 z hz)⟩
theorem d3X {s : Rd} (h : c5d s) : Kd.wf (.io rdL) s := by
 have hM := c86
 exact ⟨⟨by have := h.1; omega, fun z hz => a0F.2 (h.2 z hz)⟩, trivial, trivial⟩
theorem d0w (n : Nat) : bytes (List.replicate n 0) := fun z hz => by rw [List.eq_of_mem_replicate hz]; omega
theorem c6y {s : Rd} (h : c5d s) (n : Nat) : bytes (tk s n).1 ∧ c5d (tk s n).2 := by
 unfold tk
 split
 ·exact ⟨d0w _, h⟩
 ·exact ⟨b62 h.2 _, by show (s.1.drop n).length ≤ 1000000; rw [List.length_drop]; have := h.1; omega, c8a h.2 _⟩
theorem c2i (b : Bool) : decide (b = true) = b := by cases b <;> rfl
theorem d0t (s : Rd) : (s.1, s.2.1, ()) = s := rfl
theorem b0s : ∀ x r, q8 x = some r → ∃ N, E8 N x = some r := by
 refine c8 (ks := x9) (rs := y0) fun x hw hq => ⟨0, ?_⟩
 obtain ⟨(s : Rd), (n : Int), u⟩ := x
 obtain ⟨_, hb⟩ := d4g hw.1
 obtain ⟨h1, h2, h3⟩ : 0 ≤ n ∧ n ≤ 100000 ∧ s.1.length ≤ 1000000 := hq
 obtain ⟨n, rfl⟩ : ∃ m : Nat, n = m := ⟨n.toNat, by omega⟩
 show E8 0 (s, (n : Int), u) = some (tk s ((n : Int).toNat))
 rw [Int.toNat_natCast]
 have em : (if (8 : Int) < (n : Int) then (8 : Int) else (n : Int)) = ((min n 8 : Nat) : Int) := by split <;> omega
 unfold E8 tk
 dsimp only
 rw [em, Int.toNat_natCast]
 have c1 : (0 : Int) ≤ ((min n 8 : Nat) : Int) := by omega
 have c2 : ((min n 8 : Nat) : Int) * 1 ≤ 281474976710656 := by omega
 by_cases hbad : s.2.1 = true
 ·simp only [hbad, c1, c2, if_true, true_or]
 ·rw [if_neg hbad]
  by_cases hl : s.1.length < n
  ·have hl2 : ((s.1.length : Nat) : Int) < (n : Int) := by omega
   simp only [hl, hl2, c1, c2, if_true, or_true]
  ·have hno : ¬(s.2.1 = true ∨ s.1.length < n) := fun h => h.elim hbad hl
   rw [if_neg (by omega), if_pos (by omega), if_pos (by omega), Int.toNat_natCast, if_neg hno, List.drop_zero, Nat.sub_zero,
    at_JoinR2 ?_, Option.bind_some, if_pos (by omega), if_pos (by omega), List.take_of_length_le (l := s.1.drop n) (by rw [List.length_drop]; omega), c2i]
   ·have : s.2.1 = false := by cases h : s.2.1 <;> simp_all
    rw [this]
   ·exact ⟨by rw [List.length_take]; omega, b62 hb _⟩
 where
 at_JoinR2 {r : List Int} (h : r.length ≤ 1000000 ∧ bytes r) : q9 ([r], ()) = some r := by
  rw [b5A ⟨by simp, by rw [b8G]; exact h.1⟩ (d0k h), b8G]
theorem c19 {s : Rd} (h : c5d s) {n : Nat} (hn : n ≤ 100000) : q8 (s, (n : Int), ()) = some (tk s n) := by
 have := c7 (ks := x9) (rs := y0) (x := (s, (n : Int), ())) (Q := fun x => 0 ≤ x.2.1 ∧ x.2.1 ≤ 100000 ∧ x.1.1.length ≤ 1000000) (f := fun x => tk x.1 x.2.1.toNat)
  ⟨d3X h, (j7 (n := (n : Int))).2 (by omega), trivial⟩ ⟨by show (0 : Int) ≤ n; omega, by show (n : Int) ≤ 100000; omega, h.1⟩
 exact this
theorem d2T {s : Rd} {n : Nat} (h : 1 ≤ n ∧ n ≤ 8) : 1 ≤ (tk s n).1.length ∧ (tk s n).1.length ≤ 8 := by
 unfold tk
 split
 ·simp only [List.length_replicate]; omega
 ·rename_i h2
  simp only [not_or] at h2
  show 1 ≤ (s.1.take n).length ∧ (s.1.take n).length ≤ 8
  rw [List.length_take]; omega
theorem a8P : ∀ x r, d7 x = some r → ∃ N, B4 N x = some r := by
 refine c8 (ks := u3) (rs := u4) fun x hw hq => ⟨0, ?_⟩
 obtain ⟨(s : Rd), (n : Int), u⟩ := x
 obtain ⟨_, hb⟩ := d4g hw.1
 obtain ⟨h1, h2, h3⟩ : 1 ≤ n ∧ n ≤ 8 ∧ s.1.length ≤ 1000000 := hq
 obtain ⟨n, rfl⟩ : ∃ m : Nat, n = m := ⟨n.toNat, by omega⟩
 show B4 0 (s, (n : Int), u) = some (nmS s ((n : Int).toNat))
 have hs : c5d s := ⟨h3, hb⟩
 rw [Int.toNat_natCast]
 unfold B4 nmS
 simp only [c2i, d0t]
 rw [c19 hs (by omega), Option.bind_some, d1b (c6y hs n).1 (d2T (by omega)), Option.bind_some]
theorem a4Z {s : Rd} (h : c5d s) {n : Nat} (hn : 1 ≤ n ∧ n ≤ 8) : d7 (s, (n : Int), ()) = some (nmS s n) := by
 have := c7 (ks := u3) (rs := u4) (x := (s, (n : Int), ())) (Q := fun x => 1 ≤ x.2.1 ∧ x.2.1 ≤ 8 ∧ x.1.1.length ≤ 1000000) (f := fun x => nmS x.1 x.2.1.toNat)
  ⟨d3X h, (j7 (n := (n : Int))).2 (by omega), trivial⟩ ⟨by show (1 : Int) ≤ n; omega, by show (n : Int) ≤ 8; omega, h.1⟩
 exact this
theorem d2J {s : Rd} (h : c5d s) {n : Nat} (hn : 1 ≤ n ∧ n ≤ 8) : (0 ≤ (nmS s n).1 ∧ (nmS s n).1 ≤ 18446744073709551615) ∧ c5d (nmS s n).2 :=
 ⟨d1T (c6y h n).1 (d2T hn).2, (c6y h n).2⟩
theorem d0O {s : Rd} {n : Nat} : (tk s n).1.length ≤ n := by
 unfold tk
 split
 ·simp only [List.length_replicate]; omega
 ·show (s.1.take n).length ≤ n
  rw [List.length_take]; omega
theorem d0d {s : Rd} (h : c5d s) {n : Nat} (hn : n ≤ 2) : 0 ≤ (nmS s n).1 ∧ (nmS s n).1 ≤ 65535 := by
 obtain ⟨h1, h2⟩ := a7r _ rfl (c6y h n).1
 have hl : (tk s n).1.length ≤ n := d0O
 have h3 : (256 : Int) ^ (tk s n).1.length ≤ 256 ^ 2 := c4v (by omega)
 have h4 : (256 : Int) ^ 2 = 65536 := by decide
 exact ⟨h1, by show a7b (tk s n).1 ≤ 65535; omega⟩
theorem b0t : ∀ x r, E6 x = some r → ∃ N, E9 N x = some r := by
 refine c8 (ks := z4) (rs := z6) fun x hw hq => ⟨0, ?_⟩
 obtain ⟨(s : Rd), (n : Int), u⟩ := x
 obtain ⟨_, hb⟩ := d4g hw.1
 obtain ⟨h1, h2, h3⟩ : 1 ≤ n ∧ n ≤ 2 ∧ s.1.length ≤ 1000000 := hq
 obtain ⟨n, rfl⟩ : ∃ m : Nat, n = m := ⟨n.toNat, by omega⟩
 show E9 0 (s, (n : Int), u) = some (txS s ((n : Int).toNat))
 have hs : c5d s := ⟨h3, hb⟩
 rw [Int.toNat_natCast]
 unfold E9 txS
 simp only [c2i, d0t]
 have hm := d0d hs (n := n) (by omega)
 rw [a4Z hs (by omega), Option.bind_some, b7 (by omega) (by omega)]
 have em : (nmS s n).1 = (((nmS s n).1.toNat : Nat) : Int) := by omega
 have := c19 (d2J hs (n := n) (by omega)).2 (n := (nmS s n).1.toNat) (by omega)
 rw [← em] at this
 rw [this, Option.bind_some]
theorem c6R {s : Rd} (h : c5d s) {n : Nat} (hn : 1 ≤ n ∧ n ≤ 2) : E6 (s, (n : Int), ()) = some (txS s n) := by
 have := c7 (ks := z4) (rs := z6) (x := (s, (n : Int), ())) (Q := fun x => 1 ≤ x.2.1 ∧ x.2.1 ≤ 2 ∧ x.1.1.length ≤ 1000000) (f := fun x => txS x.1 x.2.1.toNat)
  ⟨d3X h, (j7 (n := (n : Int))).2 (by omega), trivial⟩ ⟨by show (1 : Int) ≤ n; omega, by show (n : Int) ≤ 2; omega, h.1⟩
 exact this
end Go.Ax.TryP
set_option linter.unusedVariables false
namespace Go.Ax.TryP
open Go.Proofs
def Sat (b : List Int) (k : Nat) (s : Rd) : Prop := (k ≤ b.length ∧ s = (b.drop k, false, ())) ∨ (b.length < k ∧ s.2.1 = true)
theorem c7B {b : List Int} {k : Nat} {s : Rd} (h : Sat b k s) (n : Nat) : Sat b (k + n) (tk s n).2 := by
 rcases h with ⟨h1, rfl⟩ | ⟨h1, h2⟩
 ·unfold tk
  by_cases hn : (b.drop k).length < n
  ·rw [if_pos (.inr hn)]
   rw [List.length_drop] at hn
   exact .inr ⟨by omega, rfl⟩
  ·rw [if_neg (fun h => h.elim (fun h => by cases h) hn)]
   rw [List.length_drop] at hn
   exact .inl ⟨by omega, by rw [List.drop_drop]⟩
 ·unfold tk
  rw [if_pos (.inl h2)]
  exact .inr ⟨by omega, rfl⟩
theorem c7K {b : List Int} {k : Nat} {s : Rd} (h : Sat b k s) {n : Nat} (hn : k + n ≤ b.length) : (tk s n).1 = pc b k n := by
 rcases h with ⟨h1, rfl⟩ | ⟨h1, h2⟩
 ·unfold tk
  rw [if_neg (fun h => h.elim (fun h => by cases h) (fun h => by rw [List.length_drop] at h; omega))]
  rfl
 ·omega
theorem a8k {b : List Int} {k : Nat} {s : Rd} (hs : Sat b k s) (ho : c5d s) {n : Nat} (hn : 1 ≤ n ∧ n ≤ 8) :
  Sat b (k + n) (nmS s n).2 ∧ c5d (nmS s n).2 ∧ (0 ≤ (nmS s n).1 ∧ (nmS s n).1 ≤ 18446744073709551615) ∧ (k + n ≤ b.length → (nmS s n).1 = a7b (pc b k n)) ∧ (n ≤ 4 → (nmS s n).1 ≤ 4294967295) := by
 obtain ⟨h1, h2⟩ := d2J ho hn
 refine ⟨c7B hs n, h2, h1, fun h => by unfold nmS; dsimp only; rw [c7K hs h], fun h4 => ?_⟩
 obtain ⟨g1, g2⟩ := a7r _ rfl (c6y ho n).1
 have hl : (tk s n).1.length ≤ n := d0O
 have h3 : (256 : Int) ^ (tk s n).1.length ≤ 256 ^ 4 := c4v (by omega)
 have h5 : (256 : Int) ^ 4 = 4294967296 := by decide
 show a7b (tk s n).1 ≤ 4294967295
 omega
theorem c7F {b : List Int} {k : Nat} {s : Rd} (hs : Sat b k s) (ho : c5d s) :
  ∃ m : Nat, m ≤ 65535 ∧ Sat b (k + 2 + m) (txS s 2).2 ∧ c5d (txS s 2).2 ∧ (k + 2 ≤ b.length → m = (a7b (pc b k 2)).toNat) ∧ (k + 2 + m ≤ b.length → (txS s 2).1 = pc b (k + 2) m) := by
 obtain ⟨h1, h2, h3, h4, _⟩ := a8k hs ho (n := 2) (by omega)
 have h5 := d0d ho (n := 2) (by omega)
 refine ⟨(nmS s 2).1.toNat, by omega, c7B h1 _, (c6y h2 _).2, fun h => by rw [h4 h], fun h => c7K h1 h⟩
theorem b48 {b : List Int} (hb : bytes b) (i n : Nat) : bytes (pc b i n) := c48 hb i n
theorem c7u (b : List Int) (i n : Nat) : (pc b i n).length ≤ n := by unfold pc; rw [List.length_take]; omega
theorem d3U (b : List Int) (i n : Nat) : (pc b i n).length ≤ b.length := by unfold pc; rw [List.length_take, List.length_drop]; omega
theorem c7s {c : List Int} (hb : bytes c) {n : Nat} (hl : c.length ≤ n) : 0 ≤ a7b c ∧ a7b c < 256 ^ n := by
 obtain ⟨g1, g2⟩ := a7r _ rfl hb
 have := c4v hl
 omega
theorem d4Y {b : List Int} (hb : bytes b) (hl : b.length ≤ 1000000) : b3D (gC b) := by
 have hM := c86
 have b0 := c2c hb 0
 have b1 := c2c hb 1
 have e4 : (256 : Int) ^ 4 = 4294967296 := by decide
 have e8 : (256 : Int) ^ 8 = 18446744073709551616 := by decide
 have n2 := c7s (b48 hb 2 4) (c7u b 2 4)
 have n6 := c7s (b48 hb 6 4) (c7u b 6 4)
 have n10 := c7s (b48 hb 10 8) (c7u b 10 8)
 have n18 := c7s (b48 hb 18 8) (c7u b 18 8)
 have row : ∀ i n, (pc b i n).length ≤ maxLen ∧ bytes (pc b i n) := fun i n => ⟨by have := d3U b i n; omega, b48 hb i n⟩
 refine ⟨?_, ?_, ?_, ?_, ?_, ?_, row _ _, row _ _, row _ _, row _ _⟩
 ·show -9223372036854775808 ≤ b.getD 0 0 ∧ b.getD 0 0 ≤ 9223372036854775807; omega
 ·show -9223372036854775808 ≤ b.getD 1 0 ∧ b.getD 1 0 ≤ 9223372036854775807; omega
 ·show 0 ≤ a7b (pc b 2 4) ∧ a7b (pc b 2 4) ≤ 4294967295; omega
 ·show 0 ≤ a7b (pc b 6 4) ∧ a7b (pc b 6 4) ≤ 4294967295; omega
 ·show 0 ≤ a7b (pc b 10 8) ∧ a7b (pc b 10 8) ≤ 18446744073709551615; omega
 ·show 0 ≤ a7b (pc b 18 8) ∧ a7b (pc b 18 8) ≤ 18446744073709551615; omega
theorem d0g {b : List Int} {i : Nat} (h : i < b.length) : a7b (pc b i 1) = b.getD i 0 := by
 unfold pc
 rw [List.drop_eq_getElem_cons h, List.take_succ_cons, List.take_zero, List.getD_eq_getElem?_getD, List.getElem?_eq_getElem h]
 simp [a7b]
theorem c2Q : ∀ x r, a4q x = some r → ∃ N, a2r N x = some r := by
 refine c8 (ks := U8) (rs := U9) fun x hw hq => ⟨0, ?_⟩
 obtain ⟨(b : List Int), u⟩ := x
 obtain ⟨_, hb⟩ : b.length ≤ maxLen ∧ bytes b := b0K.1 hw.1
 have hl : b.length ≤ 1000000 := hq
 show a2r 0 (b, u) = some (b7D b)
 have s0 : Sat b 0 (b, false, ()) := .inl ⟨Nat.zero_le _, rfl⟩
 have o0 : c5d (b, false, ()) := ⟨hl, hb⟩
 unfold a2r
 dsimp only
 simp only [c2i, d0t]
 have f1 := a8k s0 o0 (n := 1) (by omega)
 refine (congrArg (fun o => Option.bind o _) (show _ = _ from a4Z o0 (n := 1) (by omega))).trans ?_
 rw [show (1 : Int) = ((1 : Nat) : Int) from rfl, Option.bind_some]
 generalize nmS (b, false, ()) 1 = r1 at f1 ⊢
 obtain ⟨s1, o1, l1, v1, w1⟩ := f1
 have f2 := a8k s1 o1 (n := 1) (by omega)
 rw [a4Z o1 (by omega), Option.bind_some]
 generalize nmS r1.2 1 = r2 at f2 ⊢
 obtain ⟨s2, o2, l2, v2, w2⟩ := f2
 have f3 := a8k s2 o2 (n := 4) (by omega)
 rw [show (4 : Int) = ((4 : Nat) : Int) from rfl, a4Z o2 (by omega), Option.bind_some]
 generalize nmS r2.2 4 = r3 at f3 ⊢
 obtain ⟨s3, o3, l3, v3, w3⟩ := f3
 have f4 := a8k s3 o3 (n := 4) (by omega)
 rw [a4Z o3 (by omega), Option.bind_some]
 generalize nmS r3.2 4 = r4 at f4 ⊢
 obtain ⟨s4, o4, l4, v4, w4⟩ := f4
 have f5 := a8k s4 o4 (n := 8) (by omega)
 rw [show (8 : Int) = ((8 : Nat) : Int) from rfl, a4Z o4 (by omega), Option.bind_some]
 generalize nmS r4.2 8 = r5 at f5 ⊢
 obtain ⟨s5, o5, l5, v5, _⟩ := f5
 have f6 := a8k s5 o5 (n := 8) (by omega)
 rw [a4Z o5 (by omega), Option.bind_some]
 generalize nmS r5.2 8 = r6 at f6 ⊢
 obtain ⟨s6, o6, l6, v6, _⟩ := f6
 have f7 := c7F s6 o6
 rw [show (2 : Int) = ((2 : Nat) : Int) from rfl, c6R o6 (by omega), Option.bind_some]
 generalize txS r6.2 2 = r7 at f7 ⊢
 obtain ⟨n, hn, s7, o7, n7, v7⟩ := f7
 have s8 := c7B s7 1088
 have o8 := (c6y o7 1088).2
 have v8 := fun h => c7K s7 (n := 1088) h
 rw [show (1088 : Int) = ((1088 : Nat) : Int) from rfl, c19 o7 (by omega), Option.bind_some]
 generalize tk r7.2 1088 = r8 at s8 o8 v8 ⊢
 have f9 := c7F s8 o8
 rw [c6R o8 (by omega), Option.bind_some]
 generalize txS r8.2 2 = r9 at f9 ⊢
 obtain ⟨m, hm, s9, o9, m9, v9⟩ := f9
 have s10 := c7B s9 3309
 have v10 := fun h => c7K s9 (n := 3309) h
 rw [show (3309 : Int) = ((3309 : Nat) : Int) from rfl, c19 o9 (by omega), Option.bind_some]
 generalize tk r9.2 3309 = r10 at s10 v10 ⊢
 have bad : ∀ z : Cp, z = zC → gK b ≠ b.length → some (z, (230 : Int)) = some (b7D b) := by
  intro z hz hne
  unfold b7D
  rw [if_neg (fun h => hne h.1), hz]
 have same : 28 ≤ b.length → n = gN b := fun h => n7 (by omega)
 have same2 : 28 ≤ b.length → 28 + n + 1088 + 2 ≤ b.length → m = gM b := fun h h2 => by
  rw [m9 (by omega)]
  unfold gM
  rw [← same h, show 0 + 1 + 1 + 4 + 4 + 8 + 8 + 2 + n + 1088 = 28 + n + 1088 by omega]
 by_cases hK : 28 + n + 1088 + 2 + m + 3309 = b.length
 ·have en := same (by omega)
  have em := same2 (by omega) (by omega)
  have hgK : gK b = b.length := by unfold gK; omega
  rcases s10 with ⟨_, e10⟩ | ⟨h10, _⟩
  rotate_left
  ·omega
  rw [e10, if_neg (by simp)]
  rw [if_neg (by rw [List.length_drop]; omega)]
  have ec : ((List.getD (List.set [0] 0 (IntKind.i64.wrap r1.1)) 0 0), (List.getD (List.set [0] 0 (IntKind.i64.wrap r2.1)) 0 0), (List.getD (List.set [0] 0 (IntKind.u32.wrap r3.1)) 0 0), (List.getD (List.set [0] 0 (IntKind.u32.wrap r4.1)) 0 0), (List.getD (List.take 1 (List.set (List.set (List.replicate 2 0) 0 r5.1) 1 r6.1)) 0 0), (List.getD (List.drop 1 (List.set (List.set (List.replicate 2 0) 0 r5.1) 1 r6.1)) 0 0), r7.1, r8.1, r9.1, r10.1, ()) = gC b := by
   show (IntKind.i64.wrap r1.1, IntKind.i64.wrap r2.1, IntKind.u32.wrap r3.1, IntKind.u32.wrap r4.1, r5.1, r6.1, r7.1, r8.1, r9.1, r10.1, ()) = gC b
   unfold gC
   rw [b7 (by omega) (by have := w1 (by omega); omega), b7 (by omega) (by have := w2 (by omega); omega), wrap_u32' l3.1 (w3 (by omega)), wrap_u32' l4.1 (w4 (by omega)),
    v1 (by omega), v2 (by omega), v3 (by omega), v4 (by omega), v5 (by omega), v6 (by omega), v7 (by omega), v8 (by omega), v9 (by omega), v10 (by omega), d0g (by omega), d0g (by omega), ← en, ← em]
  rw [ec, c6N (d4Y hb hl), Option.bind_some]
  by_cases hmay : c8q (gC b) = true
  ·rw [if_pos hmay, if_neg (by decide)]
   unfold b7D
   rw [if_pos ⟨hgK, hmay⟩]
  ·rw [if_neg hmay, if_pos (by decide)]
   unfold b7D
   exact congrArg some (if_neg (fun h => hmay h.2)).symm
 ·have hgK : gK b ≠ b.length := by
   intro h
   unfold gK at h
   have en := same (by omega)
   have em := same2 (by omega) (by omega)
   omega
  by_cases hbad : r10.2.2.1 = true
  ·rw [if_pos hbad]
   exact bad _ rfl hgK
  ·rw [if_neg hbad]
   rcases s10 with ⟨h10, e10⟩ | ⟨_, h10⟩
   ·rw [e10, if_pos (by rw [List.length_drop]; omega)]
    exact bad _ rfl hgK
   ·exact absurd h10 hbad
 where
 wrap_u32' {x : Int} (h0 : 0 ≤ x) (h1 : x ≤ 4294967295) : IntKind.u32.wrap x = x := by simp [IntKind.wrap, IntKind.signed, IntKind.bits]; omega
theorem d4w {b : List Int} (hb : bytes b) (hl : b.length ≤ 1000000) : a4q (b, ()) = some (b7D b) := by
 have hM := c86
 exact c7 (ks := U8) (rs := U9) (x := (b, ())) ⟨(b0K (b := b)).2 ⟨by omega, hb⟩, trivial⟩ hl
end Go.Ax.TryP
set_option linter.unusedVariables false
namespace Go.Ax.TryP
open Go.Proofs
end Go.Ax.TryP
set_option linter.unusedVariables false
namespace Go.Ax.TryP
open Go.Proofs
theorem d3z {b : List Int} (hb : bytes b) (hl : b.length ≤ 1000000) : b3D (b7D b).1 := by
 have hM := c86
 unfold b7D
 split
 ·exact d4Y hb hl
 ·refine ⟨by decide, by decide, by decide, by decide, by decide, by decide, ⟨Nat.zero_le _, ?_⟩, ⟨Nat.zero_le _, ?_⟩, ⟨Nat.zero_le _, ?_⟩, Nat.zero_le _, ?_⟩ <;> exact fun z hz => by cases hz
theorem c7q {n : Int} (h : 0 ≤ n ∧ n ≤ 4294967295) : a7b (a74 n 4) = n := b3Z 4 n h.1 (by rw [show (256 : Int) ^ 4 = 4294967296 by decide]; omega)
theorem c7r {n : Int} (h : 0 ≤ n ∧ n ≤ 18446744073709551615) : a7b (a74 n 8) = n := b3Z 8 n h.1 (by rw [show (256 : Int) ^ 8 = 18446744073709551616 by decide]; omega)
theorem c7p {n : Nat} (h : n ≤ 65535) : (a7b (a74 (n : Int) 2)).toNat = n := by rw [b3Z 2 (n : Int) (by omega) (by rw [show (256 : Int) ^ 2 = 65536 by decide]; omega)]; omega
end Go.Ax.TryP
set_option linter.unusedVariables false
namespace Go.Ax.TryP
open Go.Proofs
theorem pcL {a b : List Int} {i n : Nat} (h : i + n ≤ a.length) : pc (a ++ b) i n = pc a i n := by
 unfold pc
 rw [List.drop_append_of_le_length (by omega), List.take_append_of_le_length (by rw [List.length_drop]; omega)]
theorem pcR {a b : List Int} {i n : Nat} (ha : a.length = i) (hb : b.length = n) : pc (a ++ b) i n = b := by
 unfold pc
 rw [List.drop_append_of_le_length (by omega), List.drop_of_length_le (by omega), List.nil_append, List.take_of_length_le (by omega)]
theorem d3B {c : Cp} (hc : b3D c) (hm : c8q c = true) : b7D (c4w c).1 = (c, 0) := by
 obtain ⟨hw, hs⟩ := c2z hm
 obtain ⟨h1, h2, h3, h4, h5⟩ := b03 hw
 obtain ⟨d1, d2⟩ := c8X h1
 obtain ⟨_, _, c3, c4, c5, c6, _⟩ := hc
 have ef : (c4w c).1 = t8 c ++ c.2.2.2.2.2.2.2.2.2.1 := by unfold c4w; rw [if_pos hm]
 rw [ef]
 have l2 : ([c.1 % 256, c.2.1 % 256] : List Int).length = 2 := rfl
 have p26 : pc (t8 c ++ c.2.2.2.2.2.2.2.2.2.1) 26 2 = a74 (c.2.2.2.2.2.2.1.length : Int) 2 := by
  unfold t8 a5I
  rw [pcL, pcL, pcL, pcL, pcL, pcR] <;> (try simp only [List.length_append, D9, l2]) <;> omega
 have eN : gN (t8 c ++ c.2.2.2.2.2.2.2.2.2.1) = c.2.2.2.2.2.2.1.length := by unfold gN; rw [p26, c7p (by omega)]
 have pM : pc (t8 c ++ c.2.2.2.2.2.2.2.2.2.1) (28 + c.2.2.2.2.2.2.1.length + 1088) 2 = a74 (c.2.2.2.2.2.2.2.2.1.length : Int) 2 := by
  unfold t8 a5I
  rw [pcL, pcL, pcR] <;> (try simp only [List.length_append, D9, l2]) <;> omega
 have eM : gM (t8 c ++ c.2.2.2.2.2.2.2.2.2.1) = c.2.2.2.2.2.2.2.2.1.length := by unfold gM; rw [eN, pM, c7p (by omega)]
 have eK : gK (t8 c ++ c.2.2.2.2.2.2.2.2.2.1) = (t8 c ++ c.2.2.2.2.2.2.2.2.2.1).length := by
  unfold gK
  rw [eN, eM]
  unfold t8 a5I
  simp only [List.length_append, D9, l2]
  omega
 have p2 : pc (t8 c ++ c.2.2.2.2.2.2.2.2.2.1) 2 4 = a74 c.2.2.1 4 := by
  unfold t8 a5I
  rw [pcL, pcL, pcL, pcL, pcL, pcL, pcL, pcL, pcL, pcR] <;> (try simp only [List.length_append, D9, l2]) <;> omega
 have p6 : pc (t8 c ++ c.2.2.2.2.2.2.2.2.2.1) 6 4 = a74 c.2.2.2.1 4 := by
  unfold t8 a5I
  rw [pcL, pcL, pcL, pcL, pcL, pcL, pcL, pcL, pcR] <;> (try simp only [List.length_append, D9, l2]) <;> omega
 have p10 : pc (t8 c ++ c.2.2.2.2.2.2.2.2.2.1) 10 8 = a74 c.2.2.2.2.1 8 := by
  unfold t8 a5I
  rw [pcL, pcL, pcL, pcL, pcL, pcL, pcL, pcR] <;> (try simp only [List.length_append, D9, l2]) <;> omega
 have p18 : pc (t8 c ++ c.2.2.2.2.2.2.2.2.2.1) 18 8 = a74 c.2.2.2.2.2.1 8 := by
  unfold t8 a5I
  rw [pcL, pcL, pcL, pcL, pcL, pcL, pcR] <;> (try simp only [List.length_append, D9, l2]) <;> omega
 have p28 : pc (t8 c ++ c.2.2.2.2.2.2.2.2.2.1) 28 c.2.2.2.2.2.2.1.length = c.2.2.2.2.2.2.1 := by
  unfold t8 a5I
  rw [pcL, pcL, pcL, pcL, pcR] <;> (try simp only [List.length_append, D9, l2]) <;> omega
 have pCt : pc (t8 c ++ c.2.2.2.2.2.2.2.2.2.1) (28 + c.2.2.2.2.2.2.1.length) 1088 = c.2.2.2.2.2.2.2.1 := by
  unfold t8 a5I
  rw [pcL, pcL, pcL, pcR] <;> (try simp only [List.length_append, D9, l2]) <;> omega
 have pSe : pc (t8 c ++ c.2.2.2.2.2.2.2.2.2.1) (28 + c.2.2.2.2.2.2.1.length + 1088 + 2) c.2.2.2.2.2.2.2.2.1.length = c.2.2.2.2.2.2.2.2.1 := by
  unfold t8 a5I
  rw [pcL, pcR] <;> (try simp only [List.length_append, D9, l2]) <;> omega
 have pSi : pc (t8 c ++ c.2.2.2.2.2.2.2.2.2.1) (28 + c.2.2.2.2.2.2.1.length + 1088 + 2 + c.2.2.2.2.2.2.2.2.1.length) 3309 = c.2.2.2.2.2.2.2.2.2.1 := by
  unfold t8 a5I
  rw [pcR] <;> (try simp only [List.length_append, D9, l2]) <;> omega
 have g0 : (t8 c ++ c.2.2.2.2.2.2.2.2.2.1).getD 0 0 = c.1 % 256 := rfl
 have g1 : (t8 c ++ c.2.2.2.2.2.2.2.2.2.1).getD 1 0 = c.2.1 % 256 := rfl
 have eC : gC (t8 c ++ c.2.2.2.2.2.2.2.2.2.1) = c := by
  unfold gC
  rw [eN, eM, p2, p6, p10, p18, p28, pCt, pSe, pSi, g0, g1, c7q c3, c7q c4, c7r c5, c7r c6, Int.emod_eq_of_lt d1.1 (by omega), Int.emod_eq_of_lt d2.1 (by omega)]
 unfold b7D
 rw [eC, if_pos ⟨eK, hm⟩]
end Go.Ax.TryP
set_option linter.unusedVariables false
namespace Go.Ax.TryP
open Go.Proofs
def livS : List Int := [108, 105, 118, 101, 114, 121]
theorem c96 : (List.set (List.set (List.set (List.set (List.set (List.set (List.replicate 6 0) 0 (108:Int)) 1 (105:Int)) 2 (118:Int)) 3 (101:Int)) 4 (114:Int)) 5 (121:Int)) = livS := rfl
theorem d2I : livS.length ≤ maxLen ∧ bytes livS := by
 refine ⟨by rw [c86]; decide, fun z hz => ?_⟩
 simp [livS] at hz
 omega
def d2n (c : Cp) : List Int := if T8 c = true then titleS ++ t8 c else []
theorem d2w {c : Cp} (h : b3D c) : P3 (c, ()) = some (d2n c) := d1f h
theorem d2Z {c : Cp} (h : b3D c) : (d2n c).length ≤ maxLen ∧ bytes (d2n c) := d2l h
theorem d2R {c : Cp} (h : b3D c) : c.2.2.2.2.2.2.2.2.2.1.length ≤ maxLen ∧ bytes c.2.2.2.2.2.2.2.2.2.1 := h.2.2.2.2.2.2.2.2.2
theorem c5X (b pk : List Int) : d5f b pk = if (b7D b).2 ≠ 0 then (b7D b).2 else if d0V pk (d2n (b7D b).1) livS (b7D b).1.2.2.2.2.2.2.2.2.2.1 ≠ 0 then 223 else 0 := rfl
theorem b8j : ∀ x r, L0 x = some r → ∃ N, V0 N x = some r := by
 refine c8 (ks := I7) (rs := a1P) fun x hw hq => ⟨0, ?_⟩
 obtain ⟨(b : List Int), (pk : List Int), u⟩ := x
 obtain ⟨_, hb⟩ : b.length ≤ maxLen ∧ bytes b := b0K.1 hw.1
 have hp : pk.length ≤ maxLen ∧ bytes pk := b0K.1 hw.2.1
 have hl : b.length ≤ 1000000 := hq
 show V0 0 (b, pk, u) = some (d5f b pk)
 rw [c5X]
 unfold V0
 dsimp only
 have hg := d3z hb hl
 rw [d4w hb hl, Option.bind_some]
 by_cases h : (b7D b).2 = 0
 ·rw [if_neg (by simp [h]), if_neg (by simp [h]), b80, d2w hg, Option.bind_some, if_pos (by decide), c96, c3C hp (d2Z hg) d2I (d2R hg), Option.bind_some]
  by_cases h2 : d0V pk (d2n (b7D b).1) livS (b7D b).1.2.2.2.2.2.2.2.2.2.1 = 0
  ·rw [if_neg (by simp [h2]), if_neg (by simp [h2])]
  ·rw [if_pos h2, if_pos h2]
 ·rw [if_pos h, if_pos h]
theorem c3y {b pk : List Int} (hb : bytes b) (hl : b.length ≤ 1000000) (hp : pk.length ≤ maxLen ∧ bytes pk) : L0 (b, pk, ()) = some (d5f b pk) := by
 have hM := c86
 exact c7 (ks := I7) (rs := a1P) (x := (b, pk, ())) ⟨(b0K (b := b)).2 ⟨by omega, hb⟩, (b0K (b := pk)).2 hp, trivial⟩ hl
theorem d3A : (b7D []).2 = 230 := by
 unfold b7D
 rw [if_neg (by
  intro h
  have : gK [] = 0 := h.1
  unfold gK at this
  omega)]
theorem b0w : ∀ x r, a3N x = some r → ∃ N, F5 N x = some r := by
 refine c8 (ks := G1) (rs := a16) fun x hw hq => ⟨0, ?_⟩
 obtain ⟨(c : Cp), (pk : List Int), u⟩ := x
 have hc : b3D c := a9u.1 hw.1
 have hp : pk.length ≤ maxLen ∧ bytes pk := b0K.1 hw.2.1
 have hM := c86
 show F5 0 (c, pk, u) = some true
 unfold F5
 dsimp only
 simp only [b80]
 rw [d3d, Option.bind_some, if_neg (by simp), d3a hc, Option.bind_some]
 by_cases b1 : d4C c = true
 ·rw [if_pos b1, Option.bind_some]; rfl
 rw [if_neg b1, d4y hc, Option.bind_some]
 by_cases hm : c8q c = true
 ·have e2 : (c4w c).2 = 0 := by unfold c4w; rw [if_pos hm]
  have hpo := d5g hc
  have hpl : (c4w c).1.length ≤ 1000000 := by
   obtain ⟨k1, k2⟩ := c2z hm
   obtain ⟨g1, g2⟩ := b3R hc k1
   unfold c4w
   rw [if_pos hm]
   show (t8 c ++ _).length ≤ _
   rw [List.length_append]; omega
  have e3 : d5f (c4w c).1 pk = if d0V pk (d2n c) livS c.2.2.2.2.2.2.2.2.2.1 ≠ 0 then 223 else 0 := by
   rw [c5X, d3B hc hm, if_neg (by simp)]
  rw [if_neg (by simp [e2]), d2w hc, Option.bind_some, if_pos (by decide), c96, c3C hp (d2Z hc) d2I (d2R hc), Option.bind_some, c3y hpo.2 hpl hp, Option.bind_some, e3]
  by_cases h : d0V pk (d2n c) livS c.2.2.2.2.2.2.2.2.2.1 = 0
  ·have e4 : (if d0V pk (d2n c) livS c.2.2.2.2.2.2.2.2.2.1 ≠ 0 then (223 : Int) else 0) = 0 := if_neg (by simp [h])
   rw [e4, if_pos (by simp [h]), if_pos h]
  ·have e4 : (if d0V pk (d2n c) livS c.2.2.2.2.2.2.2.2.2.1 ≠ 0 then (223 : Int) else 0) = 223 := if_pos h
   rw [e4, if_pos (by simp [h]), if_neg h, Option.bind_some]; rfl
 ·have e2 : c4w c = ([], 230) := by unfold c4w; rw [if_neg hm]
  rw [e2, if_pos (by simp), c3y (fun z hz => by cases hz) (by simp) hp, Option.bind_some, c5X, d3A, if_pos (by decide)]
  simp
end Go.Ax.TryP
namespace Go.Ax.TryP
open Go.Proofs
theorem S4 : b6 Try.prog 14 j5 := b91 (b8c) c4H
theorem b8s : b6 Try.prog 10 a3W := b2D (b1b S4) b8i
theorem b5h : b6 Try.prog 58 a2d := a92 (a9j) b5a
theorem c8M : b6 Try.prog 73 b5x := c2O (c07) c8F
theorem c8L : b6 Try.prog 59 b5w := c2N (c06 c8M) c8E
theorem a88 : b6 Try.prog 37 T9 := b2H (b1f b5h c8L) b8k
theorem b3v : b6 Try.prog 62 a1K := c05 (b96) c59
theorem c6j : b6 Try.prog 60 b2f := c03 (b94 b3v) c57
theorem c6k : b6 Try.prog 61 b2g := c04 (b95 b3v) c58
theorem c0x : b6 Try.prog 39 a4V := c02 (b93 b3v) c56
theorem b12 : b6 Try.prog 38 a0Y := b58 (b4f c6j c6k c0x S4) c09
theorem c1l : b6 Try.prog 11 a6v := b53 (b4c a88 b12) c08
theorem c28 : b6 Try.prog 12 a71 := b8f (b6M) c2X
theorem c4X : b6 Try.prog 4 a9D := b90 (b8a b8s c1l c28) c4G
theorem c6i : b6 Try.prog 5 b2e := c0Z (b9Z) c55
theorem a89 : b6 Try.prog 36 U0 := b2I (b1g a88) b8l
theorem b0C : b6 Try.prog 13 Z0 := b39 (b2C a89) c0e
theorem b0E : b6 Try.prog 15 Z2 := b4e (b2G b12 c0x S4) c0g
theorem c24 : b6 Try.prog 6 a7X := b7H (b52 b0C b0E S4) c2R
theorem a0z : b6 Try.prog 42 p9 := a7s (a6F S4) b0s
theorem c27 : b6 Try.prog 63 a70 := b8b (b6G) c2W
theorem a2L : b6 Try.prog 40 B0 := a5N (a5e a0z c27) a8P
theorem b0F : b6 Try.prog 41 Z3 := a7t (a6G a2L a0z) b0t
theorem c23 : b6 Try.prog 16 a7W := b7G (b51 a2L b0F a0z b0C) c2Q
theorem b0D : b6 Try.prog 9 Z1 := b4d (b2F a89 b0E S4) c0f
theorem b7n : b6 Try.prog 64 a3F := b9Y (b79) c4F
theorem b3u : b6 Try.prog 80 a1J := a9t (a8C) b3p
theorem b8v : b6 Try.prog 81 a3Z := b3g (b1M) b8o
theorem b5j : b6 Try.prog 82 a2f := b0e (a9s) b5c
theorem b3r : b6 Try.prog 84 a1G := a9g (a8m) b3m
theorem c1o : b6 Try.prog 83 a6y := b6F (b4S b3r) c1h
theorem a9a : b6 Try.prog 79 U1 := b25 (b1z b8v b5j c1o) b8n
theorem b0H : b6 Try.prog 78 Z7 := a7J (a6Y b3u a9a) b0v
theorem a9b : b6 Try.prog 74 U2 := b3h (b1N b0H) b8p
theorem a7Q : b6 Try.prog 65 P1 := b1A (b0a a9b) b6O
theorem b6Y : b6 Try.prog 75 a22 := b1D (b0d) b6R
theorem b0G : b6 Try.prog 76 Z4 := a7I (a6X a9a) b0u
theorem a7R : b6 Try.prog 66 P2 := b1C (b0c b6Y b7n b0G) b6Q
theorem b6X : b6 Try.prog 67 a21 := b1B (b0b a9b) b6P
theorem b17 : b6 Try.prog 44 a02 := b6E (b4R b7n a7Q a7R b6X) c1g
theorem b6W : b6 Try.prog 19 a20 := c2B (c0U b17) c8C
theorem c6h : b6 Try.prog 18 b2d := c0V (b9X b6W) c54
theorem b14 : b6 Try.prog 29 a00 := b6u (b4C) c1e
theorem b1Q : b6 Try.prog 47 a0U := a8z (a7y) b1O
theorem a2T : b6 Try.prog 46 C3 := a1V (a1f b1Q) a2S
theorem b5i : b6 Try.prog 22 a2e := a94 (a9n b14 a2T) b5b
theorem O0 : b6 Try.prog 52 i7 := b70 (b6v) c2T
theorem c0v : b6 Try.prog 68 a4T := b4E (b2T O0) c0i
theorem a5H : b6 Try.prog 46 I3 := a3R (a3e c0v) a5E
theorem c1m : b6 Try.prog 48 a6w := b6b (b4n a5H) c1a
theorem c4S : b6 Try.prog 23 a9x := b9J (b7T c1m) c4z
theorem b3s : b6 Try.prog 24 a1H := a9o (a8A) b3n
theorem c4R : b6 Try.prog 26 a9w := b9F (b7N b17) c4y
theorem b8u : b6 Try.prog 69 a3Y := b2O (b1k O0) b8m
theorem a4L : b6 Try.prog 46 I0 := a3d (a2Q b8u) a4J
theorem a69 : b6 Try.prog 49 O1 := b6q (b4z a4L) c1c
theorem a2M : b6 Try.prog 51 B1 := b74 (b6B O0) c2V
theorem c0s : b6 Try.prog 70 a4Q := b38 (b2B) c0d
theorem b15 : b6 Try.prog 50 a01 := b6A (b4I a2M c0s) c1f
theorem c0t : b6 Try.prog 25 a4R := c0Q (b9K a69 b15 a2M O0) c52
theorem b13 : b6 Try.prog 32 a0Z := b6i (b4q a2M) c1b
theorem c6e : b6 Try.prog 54 b2a := c0O (b9E O0) c50
theorem b3t : b6 Try.prog 28 a1I := a9p (a8B c0t b13 c6e) b3o
theorem c6g : b6 Try.prog 31 b2c := c0R (b9M O0) c53
theorem c25 : b6 Try.prog 55 a7Y := b7Q (b6c a2M) c2S
theorem a7a : b6 Try.prog 46 O2 := a4B (a39 c25) a66
theorem c6f : b6 Try.prog 30 b2b := c0P (b9I a69 b15 O0 a2M a7a) c51
theorem c4U : b6 Try.prog 77 a9z := b9P (b71) c4B
theorem c26 : b6 Try.prog 71 a7Z := b73 (b6z O0 c4U) c2U
theorem b6V : b6 Try.prog 56 a2Z := b1h (a93 c26) b6N
theorem c0u : b6 Try.prog 33 a4S := b4D (b2S b6V) c0h
theorem c4V : b6 Try.prog 72 a9A := b9Q (b72) c4C
theorem c4T : b6 Try.prog 57 a9y := b9L (b7W a69 c4V) c4A
theorem c0w : b6 Try.prog 35 a4U := b4M (b24 S4 c4T b6W) c0j
theorem c4Y : b6 Try.prog 34 a9E := b92 (b8d) c4I
theorem c1n : b6 Try.prog 53 a6x := b6r (b4A a7Q a7R) c1d
theorem c8K : XOk Try.prog 21 b5v := c2E (c0W) c8D
theorem c4W : XOk Try.prog 27 a9B := b9W (b76 S4 c1n c8K) c4E
theorem b7m : b6 Try.prog 8 a3E := b9V (b75 b6W c6h b5i c4S b3s c4R c0t b3t b14 b13 c6g c6f c0u c0w c4Y c4W) c4D
theorem b8t : b6 Try.prog 7 a3X := b2E (b1c c23 b0D b7m) b8j
noncomputable abbrev a9C : Sig := ⟨[.cat [.int .i64, .int .i64, .int .u32, .int .u32, .int .u64, .int .u64, .sl b8, .sl b8, .sl b8, .sl b8], .sl b8], [.bool], a3N⟩
theorem s_law23_CapsuleProves : b6 Try.prog 3 a9C := a7K (a6Z c4X c6i c24 b8t b0D b7m) b0w
end Go.Ax.TryP
