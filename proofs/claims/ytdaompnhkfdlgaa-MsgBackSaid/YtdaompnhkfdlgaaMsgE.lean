/- A part of the proof: MsgS4, MsgI2, MsgL1, MsgL2, MsgL3, MsgP4, MsgQ15, MsgQ16. -/
import Derived.Test.YtdaompnhkfdlgaaMsgD
set_option linter.unusedVariables false
namespace Go.Ax.TryP
open Go.Proofs
noncomputable def f7 : List Int × Unit → Option (Int × Int) := a1S (ks := [.sl (.int .u8)]) (rs := [.int .u64, .int .i64]) (fun x => 1 ≤ x.1.length ∧ x.1.length ≤ 8) fun x => (N0 x.1, 0)
def rdN {α : Type} (w : Nat) (b : List Int) (K : Int → List Int → Int ⊕ α) : Int ⊕ α := if b.length < w then .inl 8 else K (N0 (b.take w)) (b.drop w)
def rdT {α : Type} (most : Int) (b : List Int) (K : List Int → List Int → Int ⊕ α) : Int ⊕ α := rdN 2 b fun n b => if most < n then .inl 3 else if b.length < n.toNat then .inl 8 else K (b.take n.toNat) (b.drop n.toNat)
def rdC (c : Int) (m : Ms) (b : List Int) (K : Ms → List Int → Int ⊕ (Ms × List Int)) : Int ⊕ (Ms × List Int) :=
 if c = 107 then rdN 4 b fun n b => K (m.1, m.2.1, m.2.2.1, m.2.2.2.1, n, m.2.2.2.2.2) b
 else if c = 114 then rdN 8 b fun lo b => rdN 8 b fun hi b => K (m.1, m.2.1, m.2.2.1, m.2.2.2.1, m.2.2.2.2.1, lo, hi, m.2.2.2.2.2.2.2) b
 else if c = 112 then rdN 2 b fun n b => K (m.1, m.2.1, m.2.2.1, m.2.2.2.1, m.2.2.2.2.1, m.2.2.2.2.2.1, m.2.2.2.2.2.2.1, n, m.2.2.2.2.2.2.2.2) b
 else if c = 110 then rdN 2 b fun n b => K (m.1, m.2.1, m.2.2.1, m.2.2.2.1, m.2.2.2.2.1, m.2.2.2.2.2.1, m.2.2.2.2.2.2.1, m.2.2.2.2.2.2.2.1, n, m.2.2.2.2.2.2.2.2.2) b
 else if c = 100 then rdT 1024 b fun t b => K (m.1, m.2.1, m.2.2.1, m.2.2.2.1, m.2.2.2.2.1, m.2.2.2.2.2.1, m.2.2.2.2.2.2.1, m.2.2.2.2.2.2.2.1, m.2.2.2.2.2.2.2.2.1, t, m.2.2.2.2.2.2.2.2.2.2) b
 else if c = 99 then rdT 6446 b fun t b => K (m.1, m.2.1, m.2.2.1, m.2.2.2.1, m.2.2.2.2.1, m.2.2.2.2.2.1, m.2.2.2.2.2.2.1, m.2.2.2.2.2.2.2.1, m.2.2.2.2.2.2.2.2.1, m.2.2.2.2.2.2.2.2.2.1, t, m.2.2.2.2.2.2.2.2.2.2.2) b
 else if c = 115 then rdT 3309 b fun t b => K (m.1, m.2.1, m.2.2.1, m.2.2.2.1, m.2.2.2.2.1, m.2.2.2.2.2.1, m.2.2.2.2.2.2.1, m.2.2.2.2.2.2.2.1, m.2.2.2.2.2.2.2.2.1, m.2.2.2.2.2.2.2.2.2.1, m.2.2.2.2.2.2.2.2.2.2.1, t, ()) b
 else K m b
def a4A : List Int → Ms → List Int → Int ⊕ (Ms × List Int)
 | [], m, b => .inr (m, b)
 | c :: l, m, b => rdC c m b (a4A l)
def rdA (b : List Int) : Int ⊕ (Ms × List Int) := rdN 1 b fun k b => if a4V k = ⟨#[]⟩ then .inl 211 else rdN 1 b fun f b => rdN 1 b fun t b => rdN 4 b fun i b => a4A (a3W k) (k, f, t, i, 0, 0, 0, 0, 0, [], [], [], ()) b
def zM : Ms := (0, 0, 0, 0, 0, 0, 0, 0, 0, [], [], [], ())
def b41 : Int ⊕ (Ms × List Int) → Ms × Int
 | .inl e => (zM, e)
 | .inr (m, b) => if b.length > 0 then (zM, 212) else if H1 m = 0 then (m, 0) else (zM, H1 m)
def a5S (b : List Int) : Ms × Int := b41 (rdA b)
noncomputable def J2 : List Int × Unit → Option (Ms × Int) := a1S (ks := [.sl (.int .u8)]) (rs := [.cat msL, .int .i64]) (fun x => x.1.length ≤ 1000000) fun x => a5S x.1
noncomputable def a1g : Ms × List Int × Unit → Option Bool := a1S (ks := [.cat msL, .sl (.int .u8)]) (rs := [.bool]) (fun _ => True) fun _ => true
end Go.Ax.TryP
set_option linter.unusedVariables false
namespace Go.Ax.TryP
open Go.Proofs
noncomputable def G1 : Inl := Inl.ofSig o9
theorem Q1 (e0 : i6 Try.prog 42 o9) : T2 Try.prog 42 G1 := Inl.ofSig_ok e0 z6 (fun args => by cases args <;> rfl)
noncomputable def a2E : AE := AE.ofI [(5, ty5), (29, ty29), (33, ty33), (64, ty64), (67, ty67)] [] [] [] [] [] []
noncomputable def H7 : Inl := a4U a2E 0 Try.f68
theorem M3 : T2 Try.prog 68 H7 := G2 (AE.ofI_ok (all_cons a3y (all_cons x8 (all_cons a9f (all_cons a9g (all_cons b4T d0))))) d0 d0 d0 d0) mix Try.func68 0
noncomputable abbrev F5 : Sig := ⟨[.sl b8], [.int .u64, .int .i64], f7⟩
noncomputable def a1l : AE := AE.ofI [] [(67, F5)] [] [(68, H7)] [] [] []
noncomputable def E9 : Inl := a4U a1l 0 Try.f56
theorem H3 (e0 : i6 Try.prog 67 F5) : T2 Try.prog 56 E9 := G2 (AE.ofI_ok d0 (all_cons ⟨e0, a2Y⟩ d0) d0 (all_cons ⟨M3, H2⟩ d0) d0) mix Try.func56 0
noncomputable def a2D : AE := AE.ofI [(3, ty3), (25, ty25), (26, ty26), (29, ty29), (33, ty33), (64, ty64), (79, ty79), (81, ty81), (93, ty93), (95, ty95), (96, ty96), (98, ty98), (99, ty99), (101, ty101), (102, ty102)] [] [] [(56, E9), (68, H7), (42, G1), (90, a0g), (91, N8), (92, a0h), (93, a0f), (94, T7)] [16, 24, 32, 40, 47] [] [(81, "livery/msg.at", 90), (95, "livery/msg.at", 91), (98, "livery/msg.at", 92), (101, "livery/msg.at", 93), (102, "livery/msg.at", 94)]
noncomputable def X0 : Inl := a4U a2D 0 Try.f58
theorem a2f (e0 : i6 Try.prog 67 F5) (e1 : i6 Try.prog 42 o9) : T2 Try.prog 58 X0 := G2 (AE.ofI_ok (all_cons a0Q (all_cons a1O (all_cons V3 (all_cons x8 (all_cons a9f (all_cons a9g (all_cons b1I (all_cons b1J (all_cons b1K (all_cons b1L (all_cons b1M (all_cons b1N (all_cons b1O (all_cons a9d (all_cons a9e d0))))))))))))))) d0 d0 (all_cons ⟨(H3 e0), F1⟩ (all_cons ⟨M3, H2⟩ (all_cons ⟨(Q1 e1), z6⟩ (all_cons ⟨a0J, Q5⟩ (all_cons ⟨R5, M2⟩ (all_cons ⟨a0K, Q6⟩ (all_cons ⟨a0I, Q4⟩ (all_cons ⟨X1, N6⟩ d0)))))))) (all_cons b59 (all_cons b6a (all_cons b6b (all_cons b4h (all_cons b4i d0)))))) mix Try.func58 0
theorem b5z : b48 Try.prog 20 := ⟨_, Try.underlying20⟩
noncomputable def cat_msg_Get_1_E : AE := AE.ofA [(3, ty3), (25, ty25), (28, ty28), (29, ty29), (31, ty31), (33, ty33), (64, ty64)] [] [] [] [] [] [] [] [] [20] [] []
noncomputable def a2U : Cat := b7r cat_msg_Get_1_E 0 Try.f55
theorem a3I : cat_msg_Get_1_E.Ok Try.prog := AE.ofA_ok (all_cons a0Q (all_cons a1O (all_cons a1P (all_cons x8 (all_cons M0 (all_cons a9f (all_cons a9g d0))))))) d0 d0 d0 d0 d0 d0 (all_cons b5z d0) d0 d0
theorem a4M : b3z Try.prog 55 a2U := b5j a3I mix Try.func55 0
end Go.Ax.TryP
set_option linter.unusedVariables false
namespace Go.Ax.TryP
open Go.Proofs
theorem a6c (b : List Int) (z : Int) : N0 (b ++ [z]) = N0 b * 256 + z := by rw [a6b]; rfl
theorem a6X {b : List Int} {i : Nat} (hi : i < b.length) : b.take (i + 1) = b.take i ++ [b.getD i 0] := by
 rw [List.take_succ_eq_append_getElem hi, List.getD_eq_getElem?_getD, List.getElem?_eq_getElem hi]; rfl
theorem a16 {b : List Int} : ∀ (n : Nat), b.length = n → bytes b → 0 ≤ N0 b ∧ N0 b < 256 ^ n := by
 intro n
 induction n generalizing b with
 | zero => intro h _; have : b = [] := List.eq_nil_of_length_eq_zero h; subst this; exact ⟨Int.le_refl _, by decide⟩
 | succ n ih =>
  intro h hb
  obtain ⟨c, z, rfl⟩ : ∃ c z, b = c ++ [z] := ⟨b.take n, b.getD n 0, by rw [← a6X (by omega), List.take_of_length_le (by omega)]⟩
  rw [List.length_append] at h
  obtain ⟨h1, h2⟩ := ih (b := c) (by simpa using h) (fun y hy => hb y (by simp [hy]))
  have hz := hb z (by simp)
  rw [a6c, Int.pow_succ]
  omega
theorem b7S {n m : Nat} (h : n ≤ m) : (256 : Int) ^ n ≤ 256 ^ m := by
 have := Nat.pow_le_pow_right (n := 256) (by decide) h
 rw [show (256 : Int) = ((256 : Nat) : Int) from rfl, ← Int.natCast_pow, ← Int.natCast_pow]
 exact Int.ofNat_le.2 this
theorem a2d {b : List Int} (hb : bytes b) (i : Nat) : bytes (b.take i) := fun z hz => hb z (List.mem_of_mem_take hz)
theorem a7R {b : List Int} (hb : bytes b) (i : Nat) : bytes (b.drop i) := fun z hz => hb z (List.mem_of_mem_drop hz)
theorem b22 {b : List Int} (hb : bytes b) {i : Nat} (hi : i < b.length) (hl : b.length ≤ 8) : 0 ≤ N0 (b.take i) ∧ N0 (b.take i) < 72057594037927936 := by
 obtain ⟨h1, h2⟩ := a16 i (by rw [List.length_take]; omega) (a2d hb i)
 have h3 : (256 : Int) ^ i ≤ 256 ^ 7 := b7S (by omega)
 have h4 : (256 : Int) ^ 7 = 72057594037927936 := by decide
 omega
theorem b71 {x z : Int} (hx : 0 ≤ x ∧ x < 72057594037927936) (hz : 0 ≤ z ∧ z ≤ 255) : ior .u64 (b7e .u64 x 8) z = x * 256 + z := by
 obtain ⟨x, rfl⟩ : ∃ m : Nat, x = m := ⟨x.toNat, by omega⟩
 obtain ⟨z, rfl⟩ : ∃ m : Nat, z = m := ⟨z.toNat, by omega⟩
 have e := b5B (k := .u64) rfl (m := x) (s := 8) (by decide) (by show x * 2 ^ 8 < 2 ^ 64; omega)
 rw [show ((8 : Nat) : Int) = 8 from rfl] at e
 rw [e, b6G (k := .u64) rfl (by show x * 2 ^ 8 < 2 ^ 64; omega) (by show z < 2 ^ 64; omega), Nat.or_comm, b7R (show z < 2 ^ 8 by omega)]
 omega
theorem a9u : ∀ (n : Nat) (c : List Int), c.length = n → bytes c → D0 (N0 c) n = c
 | 0, c, h, _ => by have : c = [] := List.eq_nil_of_length_eq_zero h; subst this; rfl
 | n + 1, c, h, hb => by
  have e : c = c.take n ++ [c.getD n 0] := by rw [← a6X (by omega), List.take_of_length_le (by omega)]
  have hz := b0O hb n
  have ih := a9u n (c.take n) (by rw [List.length_take]; omega) (a2d hb n)
  rw [e, a6c, a9v, show (N0 (c.take n) * 256 + c.getD n 0) / 256 = N0 (c.take n) by omega, show (N0 (c.take n) * 256 + c.getD n 0) % 256 = c.getD n 0 by omega, ih]
theorem p9 {α : Type} {w : Nat} {b : List Int} {K : Int → List Int → Int ⊕ α} {z : α} (h : rdN w b K = .inr z) : ∃ c b', b = c ++ b' ∧ c.length = w ∧ K (N0 c) b' = .inr z := by
 unfold rdN at h
 split at h
 ·cases h
 ·exact ⟨b.take w, b.drop w, (List.take_append_drop w b).symm, by rw [List.length_take]; omega, h⟩
theorem y9 {α : Type} {w : Nat} {c b : List Int} (K : Int → List Int → Int ⊕ α) (h : c.length = w) : rdN w (c ++ b) K = K (N0 c) b := by
 unfold rdN
 rw [if_neg (by rw [List.length_append]; omega), List.take_left' h, List.drop_left' h]
theorem P6 {α : Type} {most : Int} {b : List Int} {K : List Int → List Int → Int ⊕ α} {z : α} (hb : bytes b) (h : rdT most b K = .inr z) : ∃ c t b', b = c ++ (t ++ b') ∧ c.length = 2 ∧ N0 c = (t.length : Int) ∧ (t.length : Int) ≤ most ∧ K t b' = .inr z := by
 obtain ⟨c, b', rfl, hc, h⟩ := p9 h
 split at h
 ·cases h
 ·split at h
  ·cases h
  ·rename_i h1 h2
   have hn := a16 2 hc (fun z hz => hb z (by simp [hz]))
   have ht : (b'.take (N0 c).toNat).length = (N0 c).toNat := by rw [List.length_take]; omega
   exact ⟨c, b'.take (N0 c).toNat, b'.drop (N0 c).toNat, by rw [List.take_append_drop], hc, by rw [ht]; omega, by rw [ht]; omega, h⟩
theorem b6X {α : Type} {most : Int} {c t b : List Int} (K : List Int → List Int → Int ⊕ α) (hc : c.length = 2) (hn : N0 c = (t.length : Int)) (hm : (t.length : Int) ≤ most) : rdT most (c ++ (t ++ b)) K = K t b := by
 unfold rdT
 rw [y9 _ hc, hn, if_neg (by omega), Int.toNat_natCast, if_neg (by rw [List.length_append]; omega), List.take_left' rfl, List.drop_left' rfl]
end Go.Ax.TryP
set_option linter.unusedVariables false
namespace Go.Ax.TryP
open Go.Proofs
theorem b8h {c : List Int} (h : c.length = 1) (hb : bytes c) : [N0 c % 256] = c := by
 obtain ⟨z, rfl⟩ := List.length_eq_one_iff.1 h
 have := hb z (by simp)
 simp only [N0, List.foldl_cons, List.foldl_nil]
 congr 1; omega
theorem z0 {c : List Int} {w : Nat} (h : c.length = w) (hb : bytes c) : D0 (N0 c) w = c := a9u w c h hb
theorem x6 {a b : List Int} (h : bytes (a ++ b)) : bytes a := fun z hz => h z (by simp [hz])
theorem i8 {a b : List Int} (h : bytes (a ++ b)) : bytes b := fun z hz => h z (by simp [hz])
theorem a5T (k : Int) : (k = 1 ∧ a3W k = [107, 114, 100, 99]) ∨ (k = 2 ∧ a3W k = [107, 114, 99, 115]) ∨ (k = 3 ∧ a3W k = [112, 110, 100]) ∨ (k = 4 ∧ a3W k = [110, 100]) ∨ (k = 5 ∧ a3W k = [107, 114, 115]) ∨ (k = 6 ∧ a3W k = [107, 114, 115]) ∨ (k ≠ 1 ∧ k ≠ 2 ∧ k ≠ 3 ∧ k ≠ 4 ∧ k ≠ 5 ∧ k ≠ 6 ∧ a3W k = []) := by
 unfold a3W
 by_cases h1 : k = 1
 ·subst h1; simp
 by_cases h2 : k = 2
 ·subst h2; simp
 by_cases h3 : k = 3
 ·subst h3; simp
 by_cases h4 : k = 4
 ·subst h4; simp
 by_cases h5 : k = 5
 ·subst h5; simp
 by_cases h6 : k = 6
 ·subst h6; simp
 simp [h1, h2, h3, h4, h5, h6]
theorem b8w {m : Ms} {b : List Int} {K : Ms → List Int → Int ⊕ (Ms × List Int)} : rdC 107 m b K = rdN 4 b fun n b => K (m.1, m.2.1, m.2.2.1, m.2.2.2.1, n, m.2.2.2.2.2) b := by simp [rdC]
theorem b8z {m : Ms} {b : List Int} {K : Ms → List Int → Int ⊕ (Ms × List Int)} : rdC 114 m b K = rdN 8 b fun lo b => rdN 8 b fun hi b => K (m.1, m.2.1, m.2.2.1, m.2.2.2.1, m.2.2.2.2.1, lo, hi, m.2.2.2.2.2.2.2) b := by simp [rdC]
theorem b8y {m : Ms} {b : List Int} {K : Ms → List Int → Int ⊕ (Ms × List Int)} : rdC 112 m b K = rdN 2 b fun n b => K (m.1, m.2.1, m.2.2.1, m.2.2.2.1, m.2.2.2.2.1, m.2.2.2.2.2.1, m.2.2.2.2.2.2.1, n, m.2.2.2.2.2.2.2.2) b := by simp [rdC]
theorem b8x {m : Ms} {b : List Int} {K : Ms → List Int → Int ⊕ (Ms × List Int)} : rdC 110 m b K = rdN 2 b fun n b => K (m.1, m.2.1, m.2.2.1, m.2.2.2.1, m.2.2.2.2.1, m.2.2.2.2.2.1, m.2.2.2.2.2.2.1, m.2.2.2.2.2.2.2.1, n, m.2.2.2.2.2.2.2.2.2) b := by simp [rdC]
theorem b8v {m : Ms} {b : List Int} {K : Ms → List Int → Int ⊕ (Ms × List Int)} : rdC 100 m b K = rdT 1024 b fun t b => K (m.1, m.2.1, m.2.2.1, m.2.2.2.1, m.2.2.2.2.1, m.2.2.2.2.2.1, m.2.2.2.2.2.2.1, m.2.2.2.2.2.2.2.1, m.2.2.2.2.2.2.2.2.1, t, m.2.2.2.2.2.2.2.2.2.2) b := by simp [rdC]
theorem b8u {m : Ms} {b : List Int} {K : Ms → List Int → Int ⊕ (Ms × List Int)} : rdC 99 m b K = rdT 6446 b fun t b => K (m.1, m.2.1, m.2.2.1, m.2.2.2.1, m.2.2.2.2.1, m.2.2.2.2.2.1, m.2.2.2.2.2.2.1, m.2.2.2.2.2.2.2.1, m.2.2.2.2.2.2.2.2.1, m.2.2.2.2.2.2.2.2.2.1, t, m.2.2.2.2.2.2.2.2.2.2.2) b := by simp [rdC]
theorem b8A {m : Ms} {b : List Int} {K : Ms → List Int → Int ⊕ (Ms × List Int)} : rdC 115 m b K = rdT 3309 b fun t b => K (m.1, m.2.1, m.2.2.1, m.2.2.2.1, m.2.2.2.2.1, m.2.2.2.2.2.1, m.2.2.2.2.2.2.1, m.2.2.2.2.2.2.2.1, m.2.2.2.2.2.2.2.2.1, m.2.2.2.2.2.2.2.2.2.1, m.2.2.2.2.2.2.2.2.2.2.1, t, ()) b := by simp [rdC]
theorem a5h {l : List Int} {m : Ms} {b : List Int} : a4A (107 :: l) m b = rdN 4 b fun n b => a4A l (m.1, m.2.1, m.2.2.1, m.2.2.2.1, n, m.2.2.2.2.2) b := b8w
theorem a5i {l : List Int} {m : Ms} {b : List Int} : a4A (114 :: l) m b = rdN 8 b fun lo b => rdN 8 b fun hi b => a4A l (m.1, m.2.1, m.2.2.1, m.2.2.2.1, m.2.2.2.2.1, lo, hi, m.2.2.2.2.2.2.2) b := b8z
theorem b6W {l : List Int} {m : Ms} {b : List Int} : a4A (112 :: l) m b = rdN 2 b fun n b => a4A l (m.1, m.2.1, m.2.2.1, m.2.2.2.1, m.2.2.2.2.1, m.2.2.2.2.2.1, m.2.2.2.2.2.2.1, n, m.2.2.2.2.2.2.2.2) b := b8y
theorem b3c {l : List Int} {m : Ms} {b : List Int} : a4A (110 :: l) m b = rdN 2 b fun n b => a4A l (m.1, m.2.1, m.2.2.1, m.2.2.2.1, m.2.2.2.2.1, m.2.2.2.2.2.1, m.2.2.2.2.2.2.1, m.2.2.2.2.2.2.2.1, n, m.2.2.2.2.2.2.2.2.2) b := b8x
theorem a8Y {l : List Int} {m : Ms} {b : List Int} : a4A (100 :: l) m b = rdT 1024 b fun t b => a4A l (m.1, m.2.1, m.2.2.1, m.2.2.2.1, m.2.2.2.2.1, m.2.2.2.2.2.1, m.2.2.2.2.2.2.1, m.2.2.2.2.2.2.2.1, m.2.2.2.2.2.2.2.2.1, t, m.2.2.2.2.2.2.2.2.2.2) b := b8v
theorem b3b {l : List Int} {m : Ms} {b : List Int} : a4A (99 :: l) m b = rdT 6446 b fun t b => a4A l (m.1, m.2.1, m.2.2.1, m.2.2.2.1, m.2.2.2.2.1, m.2.2.2.2.2.1, m.2.2.2.2.2.2.1, m.2.2.2.2.2.2.2.1, m.2.2.2.2.2.2.2.2.1, m.2.2.2.2.2.2.2.2.2.1, t, m.2.2.2.2.2.2.2.2.2.2.2) b := b8u
theorem a8Z {l : List Int} {m : Ms} {b : List Int} : a4A (115 :: l) m b = rdT 3309 b fun t b => a4A l (m.1, m.2.1, m.2.2.1, m.2.2.2.1, m.2.2.2.2.1, m.2.2.2.2.2.1, m.2.2.2.2.2.2.1, m.2.2.2.2.2.2.2.1, m.2.2.2.2.2.2.2.2.1, m.2.2.2.2.2.2.2.2.2.1, m.2.2.2.2.2.2.2.2.2.2.1, t, ()) b := b8A
theorem b5N {b : List Int} (hb : bytes b) {m : Ms} {r : List Int} (h : rdA b = .inr (m, r)) : b = w7 m true ++ r := by
 unfold rdA at h
 obtain ⟨c1, b1, rfl, l1, h⟩ := p9 h
 split at h
 ·cases h
 obtain ⟨c2, b2, rfl, l2, h⟩ := p9 h
 obtain ⟨c3, b3, rfl, l3, h⟩ := p9 h
 obtain ⟨c4, b4, rfl, l4, h⟩ := p9 h
 have k1 := b8h l1 (x6 hb)
 have k2 := b8h l2 (x6 (i8 hb))
 have k3 := b8h l3 (x6 (i8 (i8 hb)))
 have k4 := z0 l4 (x6 (i8 (i8 (i8 hb))))
 have hb4 := i8 (i8 (i8 (i8 hb)))
 have hh : ∀ x : Int × Int × Int × Int × Int × List Int × List Int × List Int × Unit, a1i (N0 c1, N0 c2, N0 c3, N0 c4, x) = c1 ++ (c2 ++ (c3 ++ c4)) := fun x => by
  unfold a1i
  dsimp only
  rw [k4]
  have : [N0 c1 % 256, N0 c2 % 256, N0 c3 % 256] = [N0 c1 % 256] ++ ([N0 c2 % 256] ++ [N0 c3 % 256]) := rfl
  rw [this, k1, k2, k3]
  simp
 clear hb
 rcases a5T (N0 c1) with ⟨_, e⟩ | ⟨_, e⟩ | ⟨_, e⟩ | ⟨_, e⟩ | ⟨_, e⟩ | ⟨_, e⟩ | ⟨_, _, _, _, _, _, e⟩ <;> rw [e] at h
 ·rw [a5h] at h
  obtain ⟨c5, b5, rfl, l5, h⟩ := p9 h
  rw [a5i] at h
  obtain ⟨c6, b6, rfl, l6, h⟩ := p9 h
  obtain ⟨c7, b7, rfl, l7, h⟩ := p9 h
  rw [a8Y] at h
  obtain ⟨c8, t8, b8, rfl, l8, n8, m8, h⟩ := P6 (i8 (i8 (i8 hb4))) h
  rw [b3b] at h
  obtain ⟨c9, t9, b9, rfl, l9, n9, m9, h⟩ := P6 (i8 (i8 (i8 (i8 (i8 hb4))))) h
  cases h
  have q5 := z0 l5 (x6 hb4)
  have q6 := z0 l6 (x6 (i8 hb4))
  have q7 := z0 l7 (x6 (i8 (i8 hb4)))
  have q8 := z0 l8 (x6 (i8 (i8 (i8 hb4))))
  have q9 := z0 l9 (x6 (i8 (i8 (i8 (i8 (i8 hb4))))))
  unfold w7
  rw [hh]
  dsimp only
  rw [e]
  simp only [List.map_cons, List.map_nil, List.flatten_cons, List.flatten_nil, v8]
  simp [q5, q6, q7, ← n8, q8, ← n9, q9]
 ·rw [a5h] at h
  obtain ⟨c5, b5, rfl, l5, h⟩ := p9 h
  rw [a5i] at h
  obtain ⟨c6, b6, rfl, l6, h⟩ := p9 h
  obtain ⟨c7, b7, rfl, l7, h⟩ := p9 h
  rw [b3b] at h
  obtain ⟨c8, t8, b8, rfl, l8, n8, m8, h⟩ := P6 (i8 (i8 (i8 hb4))) h
  rw [a8Z] at h
  obtain ⟨c9, t9, b9, rfl, l9, n9, m9, h⟩ := P6 (i8 (i8 (i8 (i8 (i8 hb4))))) h
  cases h
  have q5 := z0 l5 (x6 hb4)
  have q6 := z0 l6 (x6 (i8 hb4))
  have q7 := z0 l7 (x6 (i8 (i8 hb4)))
  have q8 := z0 l8 (x6 (i8 (i8 (i8 hb4))))
  have q9 := z0 l9 (x6 (i8 (i8 (i8 (i8 (i8 hb4))))))
  unfold w7
  rw [hh]
  dsimp only
  rw [e]
  simp only [List.map_cons, List.map_nil, List.flatten_cons, List.flatten_nil, v8]
  simp [q5, q6, q7, ← n8, q8, ← n9, q9]
 ·rw [b6W] at h
  obtain ⟨c5, b5, rfl, l5, h⟩ := p9 h
  rw [b3c] at h
  obtain ⟨c6, b6, rfl, l6, h⟩ := p9 h
  rw [a8Y] at h
  obtain ⟨c7, t7, b7, rfl, l7, n7, m7, h⟩ := P6 (i8 (i8 hb4)) h
  cases h
  have q5 := z0 l5 (x6 hb4)
  have q6 := z0 l6 (x6 (i8 hb4))
  have q7 := z0 l7 (x6 (i8 (i8 hb4)))
  unfold w7
  rw [hh]
  dsimp only
  rw [e]
  simp only [List.map_cons, List.map_nil, List.flatten_cons, List.flatten_nil, v8]
  simp [q5, q6, ← n7, q7]
 ·rw [b3c] at h
  obtain ⟨c5, b5, rfl, l5, h⟩ := p9 h
  rw [a8Y] at h
  obtain ⟨c6, t6, b6, rfl, l6, n6, m6, h⟩ := P6 (i8 hb4) h
  cases h
  have q5 := z0 l5 (x6 hb4)
  have q6 := z0 l6 (x6 (i8 hb4))
  unfold w7
  rw [hh]
  dsimp only
  rw [e]
  simp only [List.map_cons, List.map_nil, List.flatten_cons, List.flatten_nil, v8]
  simp [q5, ← n6, q6]
 ·rw [a5h] at h
  obtain ⟨c5, b5, rfl, l5, h⟩ := p9 h
  rw [a5i] at h
  obtain ⟨c6, b6, rfl, l6, h⟩ := p9 h
  obtain ⟨c7, b7, rfl, l7, h⟩ := p9 h
  rw [a8Z] at h
  obtain ⟨c8, t8, b8, rfl, l8, n8, m8, h⟩ := P6 (i8 (i8 (i8 hb4))) h
  cases h
  have q5 := z0 l5 (x6 hb4)
  have q6 := z0 l6 (x6 (i8 hb4))
  have q7 := z0 l7 (x6 (i8 (i8 hb4)))
  have q8 := z0 l8 (x6 (i8 (i8 (i8 hb4))))
  unfold w7
  rw [hh]
  dsimp only
  rw [e]
  simp only [List.map_cons, List.map_nil, List.flatten_cons, List.flatten_nil, v8]
  simp [q5, q6, q7, ← n8, q8]
 ·rw [a5h] at h
  obtain ⟨c5, b5, rfl, l5, h⟩ := p9 h
  rw [a5i] at h
  obtain ⟨c6, b6, rfl, l6, h⟩ := p9 h
  obtain ⟨c7, b7, rfl, l7, h⟩ := p9 h
  rw [a8Z] at h
  obtain ⟨c8, t8, b8, rfl, l8, n8, m8, h⟩ := P6 (i8 (i8 (i8 hb4))) h
  cases h
  have q5 := z0 l5 (x6 hb4)
  have q6 := z0 l6 (x6 (i8 hb4))
  have q7 := z0 l7 (x6 (i8 (i8 hb4)))
  have q8 := z0 l8 (x6 (i8 (i8 (i8 hb4))))
  unfold w7
  rw [hh]
  dsimp only
  rw [e]
  simp only [List.map_cons, List.map_nil, List.flatten_cons, List.flatten_nil, v8]
  simp [q5, q6, q7, ← n8, q8]
 ·cases h
  unfold w7
  rw [hh]
  dsimp only
  rw [e]
  simp
theorem b2X {k : Int} (h : a4V k ≠ ⟨#[]⟩) : 1 ≤ k ∧ k ≤ 8 := by
 apply Classical.byContradiction
 intro hn
 apply h
 unfold a4V
 rw [if_neg (by omega), if_neg (by omega), if_neg (by omega), if_neg (by omega), if_neg (by omega), if_neg (by omega), if_neg (by omega), if_neg (by omega)]
theorem b8M {z : Int} (h : 0 ≤ z ∧ z ≤ 255) : N0 [z % 256] = z := by simp [N0]; omega
theorem rd1 {α : Type} {z : Int} {b : List Int} {K : Int → List Int → Int ⊕ α} (h : 0 ≤ z ∧ z ≤ 255) : rdN 1 ([z % 256] ++ b) K = K z b := (y9 K (show [z % 256].length = 1 from rfl)).trans (by rw [b8M h])
theorem nb4 {n : Int} (h : 0 ≤ n ∧ n ≤ 4294967295) : N0 (D0 n 4) = n := a24 4 n h.1 (by rw [show (256 : Int) ^ 4 = 4294967296 by decide]; omega)
theorem nb8 {n : Int} (h : 0 ≤ n ∧ n ≤ 18446744073709551615) : N0 (D0 n 8) = n := a24 8 n h.1 (by rw [show (256 : Int) ^ 8 = 18446744073709551616 by decide]; omega)
theorem nb2 {n : Int} (h : 0 ≤ n ∧ n ≤ 65535) : N0 (D0 n 2) = n := a24 2 n h.1 (by rw [show (256 : Int) ^ 2 = 65536 by decide]; omega)
theorem b21 {c k : Int} {n : Nat} {m : Int} (h : a2i (u6 k c) n m = true) (hc : u6 k c = false) : n = 0 := by
 rw [hc] at h
 simpa [a2i] using h
theorem b58 {c k : Int} {n : Nat} {m : Int} (h : a2i (u6 k c) n m = true) (hc : u6 k c = true) : (n : Int) ≤ m := by
 rw [hc] at h
 simp [a2i] at h
 exact h.2
theorem b7u {n : Int} (h : b40 n = true) : 0 ≤ n ∧ n ≤ 255 := by
 unfold b40 at h
 have := of_decide_eq_true h
 omega
theorem a1H {most : Int} {t b : List Int} {K : List Int → List Int → Int ⊕ (Ms × List Int)} (h : (t.length : Int) ≤ most) (hm : most ≤ 10000) : rdT most (D0 (t.length : Int) 2 ++ (t ++ b)) K = K t b := b6X _ (i2 _ _) (nb2 (by omega)) h
theorem b6U {m : Ms} (hm : a0T m) (hc : H1 m = 0) (r : List Int) : rdA (w7 m true ++ r) = .inr (m, r) := by
 have ok := a8l hc
 have hn : a4V m.1 ≠ ⟨#[]⟩ := fun e => by
  unfold H1 at hc
  rw [if_pos e] at hc
  cases hc
 obtain ⟨k, f, t, i, key, lo, hi, pt, ps, d, ce, sg, u⟩ := m
 obtain ⟨_, _, _, m4, m5, m6, m7, _⟩ := hm
 dsimp only at hn m4 m5 m6 m7
 unfold okS at ok
 simp only [Bool.and_eq_true] at ok
 try dsimp only at ok
 obtain ⟨a1, a2, a3, a4, a5, a6, a7, a8, a9⟩ := ok
 have hk := b2X hn
 have a1 := b7u a1
 have a2 := b7u a2
 unfold a2N at a4
 unfold P5 at a5
 simp only [Bool.and_eq_true, decide_eq_true_eq] at a5
 try dsimp only at a4 a5
 obtain ⟨p1, p2, p3⟩ := a5
 have hform : w7 (k, f, t, i, key, lo, hi, pt, ps, d, ce, sg, u) true ++ r = [k % 256] ++ ([f % 256] ++ ([t % 256] ++ (D0 i 4 ++ (((a3W k).map (v8 (k, f, t, i, key, lo, hi, pt, ps, d, ce, sg, u) true)).flatten ++ r)))) := by
  unfold w7 a1i
  simp
 rw [hform]
 unfold rdA
 rw [rd1 (by omega), if_neg hn, rd1 a1, rd1 a2, y9 _ (i2 _ _), nb4 (by omega)]
 clear hform hc
 rcases a5T k with ⟨ek, e⟩ | ⟨ek, e⟩ | ⟨ek, e⟩ | ⟨ek, e⟩ | ⟨ek, e⟩ | ⟨ek, e⟩ | ⟨_, _, _, _, _, _, e⟩
 ·have z_d := b58 a6 (show u6 k 100 = true by unfold u6; rw [e]; rfl)
  have z_c := b58 a7 (show u6 k 99 = true by unfold u6; rw [e]; rfl)
  have z_s := b21 a8 (show u6 k 115 = false by unfold u6; rw [e]; rfl)
  have z_s := List.eq_nil_of_length_eq_zero z_s
  have z_d : (d.length : Int) ≤ 1024 := by rw [ek] at z_d; exact Int.le_trans z_d (by decide)
  have z4 : ps = 0 := by rw [(show u6 k 110 = false by unfold u6; rw [e]; rfl)] at p1; simpa using p1
  rw [if_neg (by rw [(show u6 k 112 = false by unfold u6; rw [e]; rfl)]; decide)] at p3
  have z5 : pt = 0 := by simpa using p3
  subst z_s z4 z5
  rw [e]
  simp only [List.map_cons, List.map_nil, List.flatten_cons, List.flatten_nil, v8]
  simp only [Int.reduceEq, if_true, if_false, and_true, List.append_assoc, List.append_nil]
  rw [a5h, y9 _ (i2 _ _), nb4 (by omega)]
  rw [a5i, y9 _ (i2 _ _), nb8 (by omega), y9 _ (i2 _ _), nb8 (by omega)]
  rw [a8Y, a1H z_d (by omega)]
  rw [b3b, a1H z_c (by omega)]
  rfl
 ·have z_d := b21 a6 (show u6 k 100 = false by unfold u6; rw [e]; rfl)
  have z_d := List.eq_nil_of_length_eq_zero z_d
  have z_c := b58 a7 (show u6 k 99 = true by unfold u6; rw [e]; rfl)
  have z_s := b58 a8 (show u6 k 115 = true by unfold u6; rw [e]; rfl)
  have z4 : ps = 0 := by rw [(show u6 k 110 = false by unfold u6; rw [e]; rfl)] at p1; simpa using p1
  rw [if_neg (by rw [(show u6 k 112 = false by unfold u6; rw [e]; rfl)]; decide)] at p3
  have z5 : pt = 0 := by simpa using p3
  subst z_d z4 z5
  rw [e]
  simp only [List.map_cons, List.map_nil, List.flatten_cons, List.flatten_nil, v8]
  simp only [Int.reduceEq, if_true, if_false, and_true, List.append_assoc, List.append_nil]
  rw [a5h, y9 _ (i2 _ _), nb4 (by omega)]
  rw [a5i, y9 _ (i2 _ _), nb8 (by omega), y9 _ (i2 _ _), nb8 (by omega)]
  rw [b3b, a1H z_c (by omega)]
  rw [a8Z, a1H z_s (by omega)]
  rfl
 ·have z_d := b58 a6 (show u6 k 100 = true by unfold u6; rw [e]; rfl)
  have z_c := b21 a7 (show u6 k 99 = false by unfold u6; rw [e]; rfl)
  have z_c := List.eq_nil_of_length_eq_zero z_c
  have z_s := b21 a8 (show u6 k 115 = false by unfold u6; rw [e]; rfl)
  have z_s := List.eq_nil_of_length_eq_zero z_s
  have z_d : (d.length : Int) ≤ 1024 := by rw [ek] at z_d; exact Int.le_trans z_d (by decide)
  rw [if_neg (by rw [(show u6 k 114 = false by unfold u6; rw [e]; rfl)]; decide)] at a4
  obtain ⟨z1, z2, z3⟩ := of_decide_eq_true a4
  rw [if_pos (show u6 k 112 = true by unfold u6; rw [e]; rfl)] at p3
  have p3 := of_decide_eq_true p3
  subst z_c z_s z1 z2 z3
  rw [e]
  simp only [List.map_cons, List.map_nil, List.flatten_cons, List.flatten_nil, v8]
  simp only [Int.reduceEq, if_true, if_false, and_true, List.append_assoc, List.append_nil]
  rw [b6W, y9 _ (i2 _ _), nb2 (by omega)]
  rw [b3c, y9 _ (i2 _ _), nb2 (by omega)]
  rw [a8Y, a1H z_d (by omega)]
  rfl
 ·have z_d := b58 a6 (show u6 k 100 = true by unfold u6; rw [e]; rfl)
  have z_c := b21 a7 (show u6 k 99 = false by unfold u6; rw [e]; rfl)
  have z_c := List.eq_nil_of_length_eq_zero z_c
  have z_s := b21 a8 (show u6 k 115 = false by unfold u6; rw [e]; rfl)
  have z_s := List.eq_nil_of_length_eq_zero z_s
  have z_d : (d.length : Int) ≤ 1024 := by rw [ek] at z_d; exact Int.le_trans z_d (by decide)
  rw [if_neg (by rw [(show u6 k 114 = false by unfold u6; rw [e]; rfl)]; decide)] at a4
  obtain ⟨z1, z2, z3⟩ := of_decide_eq_true a4
  rw [if_neg (by rw [(show u6 k 112 = false by unfold u6; rw [e]; rfl)]; decide)] at p3
  have z5 : pt = 0 := by simpa using p3
  subst z_c z_s z1 z2 z3 z5
  rw [e]
  simp only [List.map_cons, List.map_nil, List.flatten_cons, List.flatten_nil, v8]
  simp only [Int.reduceEq, if_true, if_false, and_true, List.append_assoc, List.append_nil]
  rw [b3c, y9 _ (i2 _ _), nb2 (by omega)]
  rw [a8Y, a1H z_d (by omega)]
  rfl
 ·have z_d := b21 a6 (show u6 k 100 = false by unfold u6; rw [e]; rfl)
  have z_d := List.eq_nil_of_length_eq_zero z_d
  have z_c := b21 a7 (show u6 k 99 = false by unfold u6; rw [e]; rfl)
  have z_c := List.eq_nil_of_length_eq_zero z_c
  have z_s := b58 a8 (show u6 k 115 = true by unfold u6; rw [e]; rfl)
  have z4 : ps = 0 := by rw [(show u6 k 110 = false by unfold u6; rw [e]; rfl)] at p1; simpa using p1
  rw [if_neg (by rw [(show u6 k 112 = false by unfold u6; rw [e]; rfl)]; decide)] at p3
  have z5 : pt = 0 := by simpa using p3
  subst z_d z_c z4 z5
  rw [e]
  simp only [List.map_cons, List.map_nil, List.flatten_cons, List.flatten_nil, v8]
  simp only [Int.reduceEq, if_true, if_false, and_true, List.append_assoc, List.append_nil]
  rw [a5h, y9 _ (i2 _ _), nb4 (by omega)]
  rw [a5i, y9 _ (i2 _ _), nb8 (by omega), y9 _ (i2 _ _), nb8 (by omega)]
  rw [a8Z, a1H z_s (by omega)]
  rfl
 ·have z_d := b21 a6 (show u6 k 100 = false by unfold u6; rw [e]; rfl)
  have z_d := List.eq_nil_of_length_eq_zero z_d
  have z_c := b21 a7 (show u6 k 99 = false by unfold u6; rw [e]; rfl)
  have z_c := List.eq_nil_of_length_eq_zero z_c
  have z_s := b58 a8 (show u6 k 115 = true by unfold u6; rw [e]; rfl)
  have z4 : ps = 0 := by rw [(show u6 k 110 = false by unfold u6; rw [e]; rfl)] at p1; simpa using p1
  rw [if_neg (by rw [(show u6 k 112 = false by unfold u6; rw [e]; rfl)]; decide)] at p3
  have z5 : pt = 0 := by simpa using p3
  subst z_d z_c z4 z5
  rw [e]
  simp only [List.map_cons, List.map_nil, List.flatten_cons, List.flatten_nil, v8]
  simp only [Int.reduceEq, if_true, if_false, and_true, List.append_assoc, List.append_nil]
  rw [a5h, y9 _ (i2 _ _), nb4 (by omega)]
  rw [a5i, y9 _ (i2 _ _), nb8 (by omega), y9 _ (i2 _ _), nb8 (by omega)]
  rw [a8Z, a1H z_s (by omega)]
  rfl
 ·have z_d := b21 a6 (show u6 k 100 = false by unfold u6; rw [e]; rfl)
  have z_d := List.eq_nil_of_length_eq_zero z_d
  have z_c := b21 a7 (show u6 k 99 = false by unfold u6; rw [e]; rfl)
  have z_c := List.eq_nil_of_length_eq_zero z_c
  have z_s := b21 a8 (show u6 k 115 = false by unfold u6; rw [e]; rfl)
  have z_s := List.eq_nil_of_length_eq_zero z_s
  rw [if_neg (by rw [(show u6 k 114 = false by unfold u6; rw [e]; rfl)]; decide)] at a4
  obtain ⟨z1, z2, z3⟩ := of_decide_eq_true a4
  have z4 : ps = 0 := by rw [(show u6 k 110 = false by unfold u6; rw [e]; rfl)] at p1; simpa using p1
  rw [if_neg (by rw [(show u6 k 112 = false by unfold u6; rw [e]; rfl)]; decide)] at p3
  have z5 : pt = 0 := by simpa using p3
  subst z_d z_c z_s z1 z2 z3 z4 z5
  rw [e]
  rfl
end Go.Ax.TryP
set_option linter.unusedVariables false
namespace Go.Ax.TryP
open Go.Proofs
theorem a4i {α : Type} {w : Nat} {b : List Int} {K : Int → List Int → Int ⊕ α} {e : Int} (h : rdN w b K = .inl e) : e = 8 ∨ ∃ n b', K n b' = .inl e := by
 unfold rdN at h
 split at h
 ·cases h; exact .inl rfl
 ·exact .inr ⟨_, _, h⟩
theorem b6Y {α : Type} {most : Int} {b : List Int} {K : List Int → List Int → Int ⊕ α} {e : Int} (h : rdT most b K = .inl e) : (e = 8 ∨ e = 3) ∨ ∃ n b', K n b' = .inl e := by
 rcases a4i h with h | ⟨n, b', h⟩
 ·exact .inl (.inl h)
 ·split at h
  ·cases h; exact .inl (.inr rfl)
  ·split at h
   ·cases h; exact .inl (.inl rfl)
   ·exact .inr ⟨_, _, h⟩
theorem b6V {c : Int} {m : Ms} {b : List Int} {K : Ms → List Int → Int ⊕ (Ms × List Int)} {e : Int} (h : rdC c m b K = .inl e) : (e = 8 ∨ e = 3) ∨ ∃ m b', K m b' = .inl e := by
 have n1 : ∀ {w : Nat} {b : List Int} {G : Int → List Int → Int ⊕ (Ms × List Int)}, rdN w b G = .inl e → (∀ n b', G n b' = .inl e → (e = 8 ∨ e = 3) ∨ ∃ m b', K m b' = .inl e) → (e = 8 ∨ e = 3) ∨ ∃ m b', K m b' = .inl e := fun h hG => by
  rcases a4i h with h | ⟨n, b', h⟩
  ·exact .inl (.inl h)
  ·exact hG _ _ h
 have t1 : ∀ {w : Int} {b : List Int} {G : List Int → List Int → Int ⊕ (Ms × List Int)}, rdT w b G = .inl e → (∀ n b', G n b' = .inl e → (e = 8 ∨ e = 3) ∨ ∃ m b', K m b' = .inl e) → (e = 8 ∨ e = 3) ∨ ∃ m b', K m b' = .inl e := fun h hG => by
  rcases b6Y h with h | ⟨n, b', h⟩
  ·exact .inl h
  ·exact hG _ _ h
 unfold rdC at h
 split at h
 ·exact n1 h fun _ _ h => .inr ⟨_, _, h⟩
 split at h
 ·exact n1 h fun _ _ h => n1 h fun _ _ h => .inr ⟨_, _, h⟩
 split at h
 ·exact n1 h fun _ _ h => .inr ⟨_, _, h⟩
 split at h
 ·exact n1 h fun _ _ h => .inr ⟨_, _, h⟩
 split at h
 ·exact t1 h fun _ _ h => .inr ⟨_, _, h⟩
 split at h
 ·exact t1 h fun _ _ h => .inr ⟨_, _, h⟩
 split at h
 ·exact t1 h fun _ _ h => .inr ⟨_, _, h⟩
 exact .inr ⟨_, _, h⟩
theorem b4x {e : Int} : ∀ (l : List Int) {m : Ms} {b : List Int}, a4A l m b = .inl e → e = 8 ∨ e = 3
 | [], m, b, h => by cases h
 | c :: l, m, b, h => by
  rcases b6V h with h | ⟨m', b', h⟩
  ·exact h
  ·exact b4x l h
theorem b6T {b : List Int} {e : Int} (h : rdA b = .inl e) : e = 8 ∨ e = 3 ∨ e = 211 := by
 unfold rdA at h
 rcases a4i h with h | ⟨n, b1, h⟩
 ·exact .inl h
 split at h
 ·cases h; exact .inr (.inr rfl)
 rcases a4i h with h | ⟨_, b2, h⟩
 ·exact .inl h
 rcases a4i h with h | ⟨_, b3, h⟩
 ·exact .inl h
 rcases a4i h with h | ⟨_, b4, h⟩
 ·exact .inl h
 rcases b4x _ h with h | h
 ·exact .inl h
 ·exact .inr (.inl h)
theorem a8r {b : List Int} (h : (a5S b).2 = 0) : ∃ m, rdA b = .inr (m, []) ∧ H1 m = 0 ∧ a5S b = (m, 0) := by
 unfold a5S at h ⊢
 cases e : rdA b with
 | inl x =>
  rw [e] at h
  rcases b6T e with h1 | h1 | h1 <;> subst h1 <;> exact absurd h (by decide)
 | inr z =>
  obtain ⟨m, r⟩ := z
  rw [e] at h
  simp only [b41] at h ⊢
  split at h
  ·exact absurd h (by decide)
  ·rename_i hr
   have hr0 : r = [] := List.eq_nil_of_length_eq_zero (by omega)
   subst hr0
   split at h
   ·rename_i hc
    exact ⟨m, rfl, hc, by simp [hc]⟩
   ·rename_i hc
    exact absurd h hc
theorem a9D {b : List Int} (h : (a5S b).2 ≠ 0) : (a5S b).1 = zM := by
 unfold a5S at h ⊢
 cases e : rdA b with
 | inl x => rfl
 | inr z =>
  obtain ⟨m, r⟩ := z
  rw [e] at h
  simp only [b41] at h ⊢
  split
  ·rfl
  ·rename_i hr
   rw [if_neg hr] at h
   split
   ·rename_i hc; rw [if_pos hc] at h; exact absurd rfl h
   ·rfl
theorem b7H {m : Ms} (hm : a0T m) (hc : H1 m = 0) (r : List Int) : a5S (w7 m true ++ r) = if r.length > 0 then (zM, 212) else (m, 0) := by
 unfold a5S
 rw [b6U hm hc]
 simp only [b41]
 split
 ·rfl
 ·first | rfl | simp [hc]
theorem b6E {m : Ms} (hm : a0T m) (hc : H1 m = 0) : a5S (b2p m).1 = (m, 0) := by
 have := b7H hm hc []
 rw [List.append_nil] at this
 unfold b2p
 rw [if_pos hc]
 exact this
theorem b6S {b : List Int} (hb : bytes b) (h : (a5S b).2 = 0) : b2p (a5S b).1 = (b, 0) := by
 obtain ⟨m, h1, h2, h3⟩ := a8r h
 have := b5N hb h1
 rw [List.append_nil] at this
 rw [h3]
 unfold b2p
 rw [if_pos h2, ← this]
theorem a8z : a0T zM := by
 have hM := b6K
 unfold a0T zM
 dsimp only
 refine ⟨by omega, by omega, by omega, by omega, by omega, by omega, by omega, by omega, by omega, ⟨by simp, ?_⟩, ⟨by simp, ?_⟩, ⟨by simp, ?_⟩⟩ <;> exact fun z hz => by cases hz
theorem a8A {c : List Int} (hb : bytes c) {w : Nat} (hl : c.length = w) : 0 ≤ N0 c ∧ N0 c < 256 ^ w := a16 w hl hb
theorem b7V {c : Int} {m : Ms} {b : List Int} {K : Ms → List Int → Int ⊕ (Ms × List Int)} {z : Ms × List Int} {p : Prop} (hm : a0T m) (hb : bytes b) (hK : ∀ m b', a0T m → bytes b' → K m b' = .inr z → p) (h : rdC c m b K = .inr z) : p := by
 have hM := b6K
 have e2 : (256 : Int) ^ 2 = 65536 := by decide
 have e4 : (256 : Int) ^ 4 = 4294967296 := by decide
 have e8 : (256 : Int) ^ 8 = 18446744073709551616 := by decide
 obtain ⟨k, f, t, i, key, lo, hi, pt, ps, d, ce, sg, u⟩ := m
 obtain ⟨m1, m2, m3, m4, m5, m6, m7, m8, m9, m10, m11, m12⟩ := hm
 unfold rdC at h
 split at h
 ·obtain ⟨c1, b1, rfl, l1, h⟩ := p9 h
  have q := a8A (x6 hb) l1
  refine hK _ _ ?_ (i8 hb) h
  exact ⟨m1, m2, m3, m4, by dsimp only; omega, m6, m7, m8, m9, m10, m11, m12⟩
 split at h
 ·obtain ⟨c1, b1, rfl, l1, h⟩ := p9 h
  obtain ⟨c2, b2, rfl, l2, h⟩ := p9 h
  have q := a8A (x6 hb) l1
  have q2 := a8A (x6 (i8 hb)) l2
  refine hK _ _ ?_ (i8 (i8 hb)) h
  exact ⟨m1, m2, m3, m4, m5, by dsimp only; omega, by dsimp only; omega, m8, m9, m10, m11, m12⟩
 split at h
 ·obtain ⟨c1, b1, rfl, l1, h⟩ := p9 h
  have q := a8A (x6 hb) l1
  refine hK _ _ ?_ (i8 hb) h
  exact ⟨m1, m2, m3, m4, m5, m6, m7, by dsimp only; omega, m9, m10, m11, m12⟩
 split at h
 ·obtain ⟨c1, b1, rfl, l1, h⟩ := p9 h
  have q := a8A (x6 hb) l1
  refine hK _ _ ?_ (i8 hb) h
  exact ⟨m1, m2, m3, m4, m5, m6, m7, m8, by dsimp only; omega, m10, m11, m12⟩
 split at h
 ·obtain ⟨c1, t1, b1, rfl, l1, n1, k1, h⟩ := P6 hb h
  refine hK _ _ ?_ (i8 (i8 hb)) h
  exact ⟨m1, m2, m3, m4, m5, m6, m7, m8, m9, ⟨by dsimp only; omega, x6 (i8 hb)⟩, m11, m12⟩
 split at h
 ·obtain ⟨c1, t1, b1, rfl, l1, n1, k1, h⟩ := P6 hb h
  refine hK _ _ ?_ (i8 (i8 hb)) h
  exact ⟨m1, m2, m3, m4, m5, m6, m7, m8, m9, m10, ⟨by dsimp only; omega, x6 (i8 hb)⟩, m12⟩
 split at h
 ·obtain ⟨c1, t1, b1, rfl, l1, n1, k1, h⟩ := P6 hb h
  refine hK _ _ ?_ (i8 (i8 hb)) h
  exact ⟨m1, m2, m3, m4, m5, m6, m7, m8, m9, m10, m11, ⟨by dsimp only; omega, x6 (i8 hb)⟩⟩
 exact hK _ _ ⟨m1, m2, m3, m4, m5, m6, m7, m8, m9, m10, m11, m12⟩ hb h
theorem b6e {z : Ms} {r : List Int} : ∀ (l : List Int) (m : Ms) (b : List Int), a0T m → bytes b → a4A l m b = .inr (z, r) → a0T z
 | [], m, b, hm, hb, h => by cases h; exact hm
 | c :: l, m, b, hm, hb, h => b7V hm hb (fun m b' hm hb h => b6e l m b' hm hb h) h
theorem b7U {b : List Int} (hb : bytes b) {z : Ms} {r : List Int} (h : rdA b = .inr (z, r)) : a0T z := by
 have hM := b6K
 have e1 : (256 : Int) ^ 1 = 256 := by decide
 have e4 : (256 : Int) ^ 4 = 4294967296 := by decide
 unfold rdA at h
 obtain ⟨c1, b1, rfl, l1, h⟩ := p9 h
 split at h
 ·cases h
 obtain ⟨c2, b2, rfl, l2, h⟩ := p9 h
 obtain ⟨c3, b3, rfl, l3, h⟩ := p9 h
 obtain ⟨c4, b4, rfl, l4, h⟩ := p9 h
 have q1 := a8A (x6 hb) l1
 have q2 := a8A (x6 (i8 hb)) l2
 have q3 := a8A (x6 (i8 (i8 hb))) l3
 have q4 := a8A (x6 (i8 (i8 (i8 hb)))) l4
 refine b6e _ _ _ ?_ (i8 (i8 (i8 (i8 hb)))) h
 obtain ⟨_, _, _, _, m5, m6, m7, m8, m9, m10, m11, m12⟩ := a8z
 exact ⟨by dsimp only; omega, by dsimp only; omega, by dsimp only; omega, by dsimp only; omega, m5, m6, m7, m8, m9, m10, m11, m12⟩
theorem b6D {b : List Int} (hb : bytes b) : a0T (a5S b).1 := by
 by_cases h : (a5S b).2 = 0
 ·obtain ⟨m, h1, h2, h3⟩ := a8r h
  rw [h3]
  exact b7U hb h1
 ·rw [a9D h]
  exact a8z
end Go.Ax.TryP
set_option linter.unusedVariables false
namespace Go.Ax.TryP
open Go.Proofs
noncomputable def p_octet_BigOf_E : AE := AE.of [(5, ty5), (26, ty26), (29, ty29)] []
noncomputable def a1E : Hints := [(5, [4, 15, 16, 17]), (2000000, [4]), (2000001, [4, 15, 16, 17]), (3000000, [2, 3])]
noncomputable def P0 : Code := (Try.f67).body.getD .skip
noncomputable def a3e : Shape := mkS { tmps := pv 4 (.sc (.int .u64) :: pv 10 (.sc (.vec 0 none 1) :: .sc (.int .i64) :: .sc (.int .i64) :: pv 10 [])), mem := [.live [.xs b8 none] (.ro)] } [.int, .nat, .int, .int, .nat, .xs]
noncomputable def v7 (N : Nat) (β : Type) (x : W9) (kn : W9 → Option β) (ke : ((Int × Unit)) → Option β) : Option β :=
 if (x.2.2.2.1 < x.2.2.1) then
  if 0 ≤ x.2.2.2.1 then (
  if x.2.2.2.1 < ((x.2.1 : Nat) : Int) then (
  if (x.2.2.2.1.toNat) < x.2.2.2.2.1 then (
  kn ((ior IntKind.u64 (b7e IntKind.u64 x.1 (8:Int)) (IntKind.u64.wrap (List.getD x.2.2.2.2.2.1 (x.2.2.2.1.toNat) 0))), x.2.1, x.2.2.1, (IntKind.i64.wrap (x.2.2.2.1 + (1:Int))), x.2.2.2.2.1, x.2.2.2.2.2.1, ())) else none) else none) else none
 else
  ke (x.1, ())
noncomputable def a2L : Go' ((Int × Unit)) := fun y K => K (.exit 0) (fSt { tmps := pv 4 (.sc (.int .u64) :: pv 23 []), mem := [] } [.int] y)
noncomputable def S5 (N : Nat) : LT := upd (LT.nil) 5 (a57 a3e N (v7 N) a2L)
theorem a2M (N : Nat) : OkAll p_octet_BigOf_E a1E N (S5 N) (y7 P0) :=
 a07 (c := a1N 5 P0) (OkAll.nil) (by kernel_rfl) (fun x => by kernel_rfl) (fun β x kn ke => by kernel_rfl)
abbrev y0 : List Kd := [.sl b8]
abbrev y4 : List Kd := [.int .u64, .int .i64]
noncomputable def M5 (N : Nat) (x : List Int × Unit) : Option (Int × Int) :=
 if ((((List.length x.1) : Nat) : Int) < (1:Int)) then
  some ((0:Int), (1:Int))
 else
  if ((((List.length x.1) : Nat) : Int) > (8:Int)) then
   some ((0:Int), (1:Int))
  else
   a51 (v7 N) N ((0:Int), (List.length x.1), (((List.length x.1) : Nat) : Int), (0:Int), (List.length x.1), x.1, ()) fun y1 => (
   some (y1.1, (0:Int)))
theorem a4a : p_octet_BigOf_E.Ok Try.prog := AE.of_ok (all_cons a3y (all_cons V3 (all_cons x8 d0))) d0
theorem a47 (hE : p_octet_BigOf_E.Ok Try.prog) {g : Ds y0 → Option (Rs y4)} (hg : ∀ x r, g x = some r → ∃ N, M5 N x = some r) : i6 Try.prog 67 ⟨y0, y4, g⟩ :=
 v9 (E := p_octet_BigOf_E) (H := a1E) (L := fun N => S5 N) (c := P0) (ks := y0) (rs := y4) (F := M5) hE mix Try.func67 (by kernel_rfl) (fun N => a2M N) (fun _ _ => by kernel_rfl) hg
end Go.Ax.TryP
set_option linter.unusedVariables false
namespace Go.Ax.TryP
open Go.Proofs
theorem a8W : ∀ x r, f7 x = some r → ∃ N, M5 N x = some r := by
 refine s0 (ks := y0) (rs := y4) fun x hw hq => ⟨10, ?_⟩
 obtain ⟨(b : List Int), u⟩ := x
 obtain ⟨_, hb⟩ : b.length ≤ maxLen ∧ bytes b := a1Q.1 hw.1
 obtain ⟨h1, h2⟩ : 1 ≤ b.length ∧ b.length ≤ 8 := hq
 unfold M5
 dsimp only
 rw [if_neg (by omega), if_neg (by omega)]
 refine (X3 (F := v7 10) (s := fun i => (N0 (b.take i), b.length, (b.length : Int), (i : Int), b.length, b, ())) (y := (N0 b, ())) b.length rfl ?_ ?_ 10 (by omega)).trans ?_
 ·intro i hi kn
  have hz := b0O hb i
  have hx := b22 hb hi h2
  unfold v7
  dsimp only
  rw [if_pos (by omega), if_pos (by omega), if_pos (by omega), Int.toNat_natCast, if_pos (by omega), L1 hz.1 (by omega), b71 hx hz, i5 (by omega) (by omega), a6X hi, a6c]
  rfl
 ·intro kn
  unfold v7
  dsimp only
  rw [if_neg (by omega), List.take_length]
 ·rfl
theorem b5d {b : List Int} (hb : bytes b) (h : 1 ≤ b.length ∧ b.length ≤ 8) : f7 (b, ()) = some (N0 b, 0) := by
 have hM := b6K
 exact o8 (ks := y0) (rs := y4) (x := (b, ())) ⟨(a1Q (b := b)).2 ⟨by omega, hb⟩, trivial⟩ h
end Go.Ax.TryP
set_option linter.unusedVariables false
namespace Go.Ax.TryP
open Go.Proofs
theorem g0 : List.getD [(0 : Int)] 0 0 = 0 := rfl
theorem g1 (z : Int) : List.getD (List.set [(0 : Int)] 0 z) 0 0 = z := rfl
theorem g2 : List.getD (List.take 1 (List.replicate 2 (0 : Int))) 0 0 = 0 := rfl
theorem g3 : List.getD (List.drop 1 (List.replicate 2 (0 : Int))) 0 0 = 0 := rfl
theorem g4 (a c : Int) : List.getD (List.take 1 (List.set (List.set (List.replicate 2 (0 : Int)) 0 a) 1 c)) 0 0 = a := rfl
theorem g5 (a c : Int) : List.getD (List.drop 1 (List.set (List.set (List.replicate 2 (0 : Int)) 0 a) 1 c)) 0 0 = c := rfl
theorem w32 {n : Int} (h0 : 0 ≤ n) (h1 : n ≤ 4294967295) : IntKind.u32.wrap n = n := by simp [IntKind.wrap, IntKind.signed, IntKind.bits]; omega
theorem X6 : ([] : List Int).length ≤ maxLen ∧ bytes [] := ⟨by simp, fun z hz => by cases hz⟩
end Go.Ax.TryP
