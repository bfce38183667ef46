/- A part of the proof: MsgS4, MsgI2, MsgL1, MsgL2, MsgL3, MsgP4, MsgQ15, MsgQ16. -/
import Derived.Test.YtdaompnhkfdlgaaMsgD
set_option linter.unusedVariables false
namespace Go.Ax.TryP
open Go.Proofs
noncomputable def d7 : List Int × Unit → Option (Int × Int) := Y2 (ks := [.sl (.int .u8)]) (rs := [.int .u64, .int .i64]) (fun x => 1 ≤ x.1.length ∧ x.1.length ≤ 8) fun x => (a3Q x.1, 0)
noncomputable def N6 : List Int × Unit → Option Int := Y2 (ks := [.sl (.int .u8)]) (rs := [.int .u64]) (fun x => x.1.length ≤ 8) fun x => a3Q x.1
abbrev Rd := List Int × Int × Unit
abbrev rdL : List FK := [.fs (.int .u8), .int .i64]
def a90 (s : Rd) (n : Nat) : List Int × Rd := if s.2.1 ≠ 0 then (List.replicate n 0, s) else if s.1.length < n then (List.replicate n 0, (s.1, 8, ())) else (s.1.take n, (s.1.drop n, 0, ()))
def j7 (s : Rd) (n : Nat) : Int × Rd := (a3Q (a90 s n).1, (a90 s n).2)
def a1F (s : Rd) (most : Int) : List Int × Rd := if (j7 s 2).2.2.1 ≠ 0 then ([], (j7 s 2).2) else if most < (j7 s 2).1 then ([], ((j7 s 2).2.1, 3, ())) else a90 (j7 s 2).2 (j7 s 2).1.toNat
noncomputable def q9 : Rd × Int × Unit → Option (List Int × Rd) := Y2 (ks := [.io rdL, .int .i64]) (rs := [.sl (.int .u8), .cat rdL]) (fun x => 0 ≤ x.2.1 ∧ x.2.1 ≤ 100000 ∧ (x.1.1.length ≤ 1000000 ∧ 0 ≤ x.1.2.1 ∧ x.1.2.1 ≤ 300)) fun x => a90 x.1 x.2.1.toNat
noncomputable def c9 : Rd × Int × Unit → Option (Int × Rd) := Y2 (ks := [.io rdL, .int .i64]) (rs := [.int .u64, .cat rdL]) (fun x => 1 ≤ x.2.1 ∧ x.2.1 ≤ 8 ∧ (x.1.1.length ≤ 1000000 ∧ 0 ≤ x.1.2.1 ∧ x.1.2.1 ≤ 300)) fun x => j7 x.1 x.2.1.toNat
noncomputable def i6 : Rd × Int × Unit → Option (List Int × Rd) := Y2 (ks := [.io rdL, .int .i64]) (rs := [.sl (.int .u8), .cat rdL]) (fun x => 0 ≤ x.2.1 ∧ x.2.1 ≤ 10000 ∧ (x.1.1.length ≤ 1000000 ∧ 0 ≤ x.1.2.1 ∧ x.1.2.1 ≤ 300)) fun x => a1F x.1 x.2.1
def rdN {α : Type} (w : Nat) (b : List Int) (K : Int → List Int → Int ⊕ α) : Int ⊕ α := if b.length < w then .inl 8 else K (a3Q (b.take w)) (b.drop w)
def rdT {α : Type} (most : Int) (b : List Int) (K : List Int → List Int → Int ⊕ α) : Int ⊕ α := rdN 2 b fun n b => if most < n then .inl 3 else if b.length < n.toNat then .inl 8 else K (b.take n.toNat) (b.drop n.toNat)
def rdC (c : Int) (m : Ms) (b : List Int) (K : Ms → List Int → Int ⊕ (Ms × List Int)) : Int ⊕ (Ms × List Int) :=
 if c = 107 then rdN 4 b fun n b => K (m.1, m.2.1, m.2.2.1, m.2.2.2.1, n, m.2.2.2.2.2) b
 else if c = 114 then rdN 8 b fun lo b => rdN 8 b fun hi b => K (m.1, m.2.1, m.2.2.1, m.2.2.2.1, m.2.2.2.2.1, lo, hi, m.2.2.2.2.2.2.2) b
 else if c = 112 then rdN 2 b fun n b => K (m.1, m.2.1, m.2.2.1, m.2.2.2.1, m.2.2.2.2.1, m.2.2.2.2.2.1, m.2.2.2.2.2.2.1, n, m.2.2.2.2.2.2.2.2) b
 else if c = 110 then rdN 2 b fun n b => K (m.1, m.2.1, m.2.2.1, m.2.2.2.1, m.2.2.2.2.1, m.2.2.2.2.2.1, m.2.2.2.2.2.2.1, m.2.2.2.2.2.2.2.1, n, m.2.2.2.2.2.2.2.2.2) b
 else if c = 100 then rdT 1024 b fun t b => K (m.1, m.2.1, m.2.2.1, m.2.2.2.1, m.2.2.2.2.1, m.2.2.2.2.2.1, m.2.2.2.2.2.2.1, m.2.2.2.2.2.2.2.1, m.2.2.2.2.2.2.2.2.1, t, m.2.2.2.2.2.2.2.2.2.2) b
 else if c = 99 then rdT 6446 b fun t b => K (m.1, m.2.1, m.2.2.1, m.2.2.2.1, m.2.2.2.2.1, m.2.2.2.2.2.1, m.2.2.2.2.2.2.1, m.2.2.2.2.2.2.2.1, m.2.2.2.2.2.2.2.2.1, m.2.2.2.2.2.2.2.2.2.1, t, m.2.2.2.2.2.2.2.2.2.2.2) b
 else if c = 115 then rdT 3309 b fun t b => K (m.1, m.2.1, m.2.2.1, m.2.2.2.1, m.2.2.2.2.1, m.2.2.2.2.2.1, m.2.2.2.2.2.2.1, m.2.2.2.2.2.2.2.1, m.2.2.2.2.2.2.2.2.1, m.2.2.2.2.2.2.2.2.2.1, m.2.2.2.2.2.2.2.2.2.2.1, t, ()) b
 else K m b
def a7l : List Int → Ms → List Int → Int ⊕ (Ms × List Int)
 | [], m, b => .inr (m, b)
 | c :: l, m, b => rdC c m b (a7l l)
def rdA (b : List Int) : Int ⊕ (Ms × List Int) := rdN 1 b fun k b => if a5v k = ⟨#[]⟩ then .inl 211 else rdN 1 b fun f b => rdN 1 b fun t b => rdN 4 b fun i b => a7l (a8h k) (k, f, t, i, 0, 0, 0, 0, 0, [], [], [], ()) b
def zM : Ms := (0, 0, 0, 0, 0, 0, 0, 0, 0, [], [], [], ())
def b2O : Int ⊕ (Ms × List Int) → Ms × Int
 | .inl e => (zM, e)
 | .inr (m, b) => if b.length > 0 then (zM, 212) else if A4 m = 0 then (m, 0) else (zM, A4 m)
def w5 (b : List Int) : Ms × Int := b2O (rdA b)
noncomputable def a5m : List Int × Unit → Option (Ms × Int) := Y2 (ks := [.sl (.int .u8)]) (rs := [.cat msL, .int .i64]) (fun x => x.1.length ≤ 1000000) fun x => w5 x.1
noncomputable def a1M : List Int × Unit → Option (Ms × Int) := Y2 (ks := [.fsl (.int .u8)]) (rs := [.cat msL, .int .i64]) (fun x => x.1.length ≤ 1000000) fun x => w5 x.1
noncomputable def a21 : List Int × Unit → Option Bool := Y2 (ks := [.sl (.int .u8)]) (rs := [.bool]) (fun _ => True) fun _ => true
end Go.Ax.TryP
set_option linter.unusedVariables false
namespace Go.Ax.TryP
open Go.Proofs
noncomputable def K4 : Inl := Inl.ofSig p9
theorem Y6 (e0 : i0 Try.prog 42 p9) : Y4 Try.prog 42 K4 := Inl.ofSig_ok e0 B8 (fun args => by cases args <;> rfl)
noncomputable def a4M : AE := AE.ofI [(5, ty5), (29, ty29), (33, ty33), (64, ty64), (67, ty67)] [] [] [] [] [] []
noncomputable def M2 : Inl := a6D a4M 0 Try.f68
theorem R9 : Y4 Try.prog 68 M2 := H5 (AE.ofI_ok (all_cons Y0 (all_cons v6 (all_cons a49 (all_cons b2v (all_cons b8v c6))))) c6 c6 c6 c6) mix Try.func68 0
noncomputable abbrev J3 : Sig := ⟨[.sl b8], [.int .u64, .int .i64], d7⟩
noncomputable def a25 : AE := AE.ofI [] [(67, J3)] [] [(68, M2)] [] [] []
noncomputable def I4 : Inl := a6D a25 0 Try.f56
theorem L7 (e0 : i0 Try.prog 67 J3) : Y4 Try.prog 56 I4 := H5 (AE.ofI_ok c6 (all_cons ⟨e0, a5k⟩ c6) c6 (all_cons ⟨R9, L6⟩ c6) c6) mix Try.func56 0
noncomputable def a4L : AE := AE.ofI [(3, ty3), (25, ty25), (26, ty26), (29, ty29), (33, ty33), (64, ty64), (79, ty79), (81, ty81), (93, ty93), (95, ty95), (96, ty96), (98, ty98), (99, ty99), (101, ty101), (102, ty102)] [] [] [(56, I4), (68, M2), (42, K4), (90, a1P), (91, T7), (92, a1Q), (93, a1O), (94, a0G)] [16, 24, 32, 40, 47] [] [(81, "livery/msg.at", 90), (95, "livery/msg.at", 91), (98, "livery/msg.at", 92), (101, "livery/msg.at", 93), (102, "livery/msg.at", 94)]
noncomputable def a09 : Inl := a6D a4L 0 Try.f58
theorem a3Z (e0 : i0 Try.prog 67 J3) (e1 : i0 Try.prog 42 p9) : Y4 Try.prog 58 a09 := H5 (AE.ofI_ok (all_cons X9 (all_cons a2k (all_cons I7 (all_cons v6 (all_cons a49 (all_cons b2v (all_cons b5e (all_cons b5f (all_cons b5g (all_cons b5h (all_cons b5i (all_cons b5j (all_cons b5k (all_cons b2s (all_cons b2t c6))))))))))))))) c6 c6 (all_cons ⟨(L7 e0), I8⟩ (all_cons ⟨R9, L6⟩ (all_cons ⟨(Y6 e1), B8⟩ (all_cons ⟨a2t, Z2⟩ (all_cons ⟨a0f, R8⟩ (all_cons ⟨a2u, Z4⟩ (all_cons ⟨a2s, Z1⟩ (all_cons ⟨a1a, T5⟩ c6)))))))) (all_cons b9S (all_cons b9T (all_cons b9U (all_cons b7O (all_cons b7P c6)))))) mix Try.func58 0
theorem b9e : b8I Try.prog 20 := ⟨_, Try.underlying20⟩
noncomputable def cat_msg_Get_1_E : AE := AE.ofA [(3, ty3), (25, ty25), (28, ty28), (29, ty29), (31, ty31), (33, ty33), (64, ty64)] [] [] [] [] [] [] [] [] [20] [] []
noncomputable def a5g : Cat := c07 cat_msg_Get_1_E 0 Try.f55
theorem a6n : cat_msg_Get_1_E.Ok Try.prog := AE.ofA_ok (all_cons X9 (all_cons a2k (all_cons a00 (all_cons v6 (all_cons N5 (all_cons a49 (all_cons b2v c6))))))) c6 c6 c6 c6 c6 c6 (all_cons b9e c6) c6 c6
theorem a7A : b68 Try.prog 55 a5g := b8W a6n mix Try.func55 0
end Go.Ax.TryP
set_option linter.unusedVariables false
namespace Go.Ax.TryP
open Go.Proofs
theorem a83 (b : List Int) (z : Int) : a3Q (b ++ [z]) = a3Q b * 256 + z := by rw [b4v]; rfl
theorem a9V {b : List Int} {i : Nat} (hi : i < b.length) : b.take (i + 1) = b.take i ++ [b.getD i 0] := by
 rw [List.take_succ_eq_append_getElem hi, List.getD_eq_getElem?_getD, List.getElem?_eq_getElem hi]; rfl
theorem a1f {b : List Int} : ∀ (n : Nat), b.length = n → bytes b → 0 ≤ a3Q b ∧ a3Q b < 256 ^ n := by
 intro n
 induction n generalizing b with
 | zero => intro h _; have : b = [] := List.eq_nil_of_length_eq_zero h; subst this; exact ⟨Int.le_refl _, by decide⟩
 | succ n ih =>
  intro h hb
  obtain ⟨c, z, rfl⟩ : ∃ c z, b = c ++ [z] := ⟨b.take n, b.getD n 0, by rw [← a9V (by omega), List.take_of_length_le (by omega)]⟩
  rw [List.length_append] at h
  obtain ⟨h1, h2⟩ := ih (b := c) (by simpa using h) (fun y hy => hb y (by simp [hy]))
  have hz := hb z (by simp)
  rw [a83, Int.pow_succ]
  omega
theorem b9X {n m : Nat} (h : n ≤ m) : (256 : Int) ^ n ≤ 256 ^ m := by
 have := Nat.pow_le_pow_right (n := 256) (by decide) h
 rw [show (256 : Int) = ((256 : Nat) : Int) from rfl, ← Int.natCast_pow, ← Int.natCast_pow]
 exact Int.ofNat_le.2 this
theorem a1E {b : List Int} (hb : bytes b) (i : Nat) : bytes (b.take i) := fun z hz => hb z (List.mem_of_mem_take hz)
theorem a3H {b : List Int} (hb : bytes b) (i : Nat) : bytes (b.drop i) := fun z hz => hb z (List.mem_of_mem_drop hz)
theorem b02 {b : List Int} (hb : bytes b) {i : Nat} (hi : i < b.length) (hl : b.length ≤ 8) : 0 ≤ a3Q (b.take i) ∧ a3Q (b.take i) < 72057594037927936 := by
 obtain ⟨h1, h2⟩ := a1f i (by rw [List.length_take]; omega) (a1E hb i)
 have h3 : (256 : Int) ^ i ≤ 256 ^ 7 := b9X (by omega)
 have h4 : (256 : Int) ^ 7 = 72057594037927936 := by decide
 omega
theorem c1E {x z : Int} (hx : 0 ≤ x ∧ x < 72057594037927936) (hz : 0 ≤ z ∧ z ≤ 255) : ior .u64 (c0T .u64 x 8) z = x * 256 + z := by
 obtain ⟨x, rfl⟩ : ∃ m : Nat, x = m := ⟨x.toNat, by omega⟩
 obtain ⟨z, rfl⟩ : ∃ m : Nat, z = m := ⟨z.toNat, by omega⟩
 have e := b9g (k := .u64) rfl (m := x) (s := 8) (by decide) (by show x * 2 ^ 8 < 2 ^ 64; omega)
 rw [show ((8 : Nat) : Int) = 8 from rfl] at e
 rw [e, c0p (k := .u64) rfl (by show x * 2 ^ 8 < 2 ^ 64; omega) (by show z < 2 ^ 64; omega), Nat.or_comm, c1t (show z < 2 ^ 8 by omega)]
 omega
theorem a0X {α : Type} {w : Nat} {b : List Int} {K : Int → List Int → Int ⊕ α} {z : α} (h : rdN w b K = .inr z) : ∃ c b', b = c ++ b' ∧ c.length = w ∧ K (a3Q c) b' = .inr z := by
 unfold rdN at h
 split at h
 ·cases h
 ·exact ⟨b.take w, b.drop w, (List.take_append_drop w b).symm, by rw [List.length_take]; omega, h⟩
theorem b4Q {α : Type} {most : Int} {b : List Int} {K : List Int → List Int → Int ⊕ α} {z : α} (hb : bytes b) (h : rdT most b K = .inr z) : ∃ c t b', b = c ++ (t ++ b') ∧ c.length = 2 ∧ a3Q c = (t.length : Int) ∧ (t.length : Int) ≤ most ∧ K t b' = .inr z := by
 obtain ⟨c, b', rfl, hc, h⟩ := a0X h
 split at h
 ·cases h
 ·split at h
  ·cases h
  ·rename_i h1 h2
   have hn := a1f 2 hc (fun z hz => hb z (by simp [hz]))
   have ht : (b'.take (a3Q c).toNat).length = (a3Q c).toNat := by rw [List.length_take]; omega
   exact ⟨c, b'.take (a3Q c).toNat, b'.drop (a3Q c).toNat, by rw [List.take_append_drop], hc, by rw [ht]; omega, by rw [ht]; omega, h⟩
end Go.Ax.TryP
set_option linter.unusedVariables false
namespace Go.Ax.TryP
open Go.Proofs
theorem a7z {a b : List Int} (h : bytes (a ++ b)) : bytes a := fun z hz => h z (by simp [hz])
theorem Q3 {a b : List Int} (h : bytes (a ++ b)) : bytes b := fun z hz => h z (by simp [hz])
theorem b2S (k : Int) : (k = 1 ∧ a8h k = [107, 114, 100, 99]) ∨ (k = 2 ∧ a8h k = [107, 114, 99, 115]) ∨ (k = 3 ∧ a8h k = [112, 110, 100]) ∨ (k = 4 ∧ a8h k = [110, 100]) ∨ (k = 5 ∧ a8h k = [107, 114, 115]) ∨ (k = 6 ∧ a8h k = [107, 114, 115]) ∨ (k ≠ 1 ∧ k ≠ 2 ∧ k ≠ 3 ∧ k ≠ 4 ∧ k ≠ 5 ∧ k ≠ 6 ∧ a8h k = []) := by
 unfold a8h
 by_cases h1 : k = 1
 ·subst h1; simp
 by_cases h2 : k = 2
 ·subst h2; simp
 by_cases h3 : k = 3
 ·subst h3; simp
 by_cases h4 : k = 4
 ·subst h4; simp
 by_cases h5 : k = 5
 ·subst h5; simp
 by_cases h6 : k = 6
 ·subst h6; simp
 simp [h1, h2, h3, h4, h5, h6]
theorem c2b {m : Ms} {b : List Int} {K : Ms → List Int → Int ⊕ (Ms × List Int)} : rdC 107 m b K = rdN 4 b fun n b => K (m.1, m.2.1, m.2.2.1, m.2.2.2.1, n, m.2.2.2.2.2) b := by simp [rdC]
theorem c2e {m : Ms} {b : List Int} {K : Ms → List Int → Int ⊕ (Ms × List Int)} : rdC 114 m b K = rdN 8 b fun lo b => rdN 8 b fun hi b => K (m.1, m.2.1, m.2.2.1, m.2.2.2.1, m.2.2.2.2.1, lo, hi, m.2.2.2.2.2.2.2) b := by simp [rdC]
theorem c2d {m : Ms} {b : List Int} {K : Ms → List Int → Int ⊕ (Ms × List Int)} : rdC 112 m b K = rdN 2 b fun n b => K (m.1, m.2.1, m.2.2.1, m.2.2.2.1, m.2.2.2.2.1, m.2.2.2.2.2.1, m.2.2.2.2.2.2.1, n, m.2.2.2.2.2.2.2.2) b := by simp [rdC]
theorem c2c {m : Ms} {b : List Int} {K : Ms → List Int → Int ⊕ (Ms × List Int)} : rdC 110 m b K = rdN 2 b fun n b => K (m.1, m.2.1, m.2.2.1, m.2.2.2.1, m.2.2.2.2.1, m.2.2.2.2.2.1, m.2.2.2.2.2.2.1, m.2.2.2.2.2.2.2.1, n, m.2.2.2.2.2.2.2.2.2) b := by simp [rdC]
theorem c2a {m : Ms} {b : List Int} {K : Ms → List Int → Int ⊕ (Ms × List Int)} : rdC 100 m b K = rdT 1024 b fun t b => K (m.1, m.2.1, m.2.2.1, m.2.2.2.1, m.2.2.2.2.1, m.2.2.2.2.2.1, m.2.2.2.2.2.2.1, m.2.2.2.2.2.2.2.1, m.2.2.2.2.2.2.2.2.1, t, m.2.2.2.2.2.2.2.2.2.2) b := by simp [rdC]
theorem c19 {m : Ms} {b : List Int} {K : Ms → List Int → Int ⊕ (Ms × List Int)} : rdC 99 m b K = rdT 6446 b fun t b => K (m.1, m.2.1, m.2.2.1, m.2.2.2.1, m.2.2.2.2.1, m.2.2.2.2.2.1, m.2.2.2.2.2.2.1, m.2.2.2.2.2.2.2.1, m.2.2.2.2.2.2.2.2.1, m.2.2.2.2.2.2.2.2.2.1, t, m.2.2.2.2.2.2.2.2.2.2.2) b := by simp [rdC]
theorem c2f {m : Ms} {b : List Int} {K : Ms → List Int → Int ⊕ (Ms × List Int)} : rdC 115 m b K = rdT 3309 b fun t b => K (m.1, m.2.1, m.2.2.1, m.2.2.2.1, m.2.2.2.2.1, m.2.2.2.2.2.1, m.2.2.2.2.2.2.1, m.2.2.2.2.2.2.2.1, m.2.2.2.2.2.2.2.2.1, m.2.2.2.2.2.2.2.2.2.1, m.2.2.2.2.2.2.2.2.2.2.1, t, ()) b := by simp [rdC]
theorem b3D {l : List Int} {m : Ms} {b : List Int} : a7l (107 :: l) m b = rdN 4 b fun n b => a7l l (m.1, m.2.1, m.2.2.1, m.2.2.2.1, n, m.2.2.2.2.2) b := c2b
theorem b3E {l : List Int} {m : Ms} {b : List Int} : a7l (114 :: l) m b = rdN 8 b fun lo b => rdN 8 b fun hi b => a7l l (m.1, m.2.1, m.2.2.1, m.2.2.2.1, m.2.2.2.2.1, lo, hi, m.2.2.2.2.2.2.2) b := c2e
theorem c1x {l : List Int} {m : Ms} {b : List Int} : a7l (112 :: l) m b = rdN 2 b fun n b => a7l l (m.1, m.2.1, m.2.2.1, m.2.2.2.1, m.2.2.2.2.1, m.2.2.2.2.2.1, m.2.2.2.2.2.2.1, n, m.2.2.2.2.2.2.2.2) b := c2d
theorem b9v {l : List Int} {m : Ms} {b : List Int} : a7l (110 :: l) m b = rdN 2 b fun n b => a7l l (m.1, m.2.1, m.2.2.1, m.2.2.2.1, m.2.2.2.2.1, m.2.2.2.2.2.1, m.2.2.2.2.2.2.1, m.2.2.2.2.2.2.2.1, n, m.2.2.2.2.2.2.2.2.2) b := c2c
theorem b6I {l : List Int} {m : Ms} {b : List Int} : a7l (100 :: l) m b = rdT 1024 b fun t b => a7l l (m.1, m.2.1, m.2.2.1, m.2.2.2.1, m.2.2.2.2.1, m.2.2.2.2.2.1, m.2.2.2.2.2.2.1, m.2.2.2.2.2.2.2.1, m.2.2.2.2.2.2.2.2.1, t, m.2.2.2.2.2.2.2.2.2.2) b := c2a
theorem b9u {l : List Int} {m : Ms} {b : List Int} : a7l (99 :: l) m b = rdT 6446 b fun t b => a7l l (m.1, m.2.1, m.2.2.1, m.2.2.2.1, m.2.2.2.2.1, m.2.2.2.2.2.1, m.2.2.2.2.2.2.1, m.2.2.2.2.2.2.2.1, m.2.2.2.2.2.2.2.2.1, m.2.2.2.2.2.2.2.2.2.1, t, m.2.2.2.2.2.2.2.2.2.2.2) b := c19
theorem b6J {l : List Int} {m : Ms} {b : List Int} : a7l (115 :: l) m b = rdT 3309 b fun t b => a7l l (m.1, m.2.1, m.2.2.1, m.2.2.2.1, m.2.2.2.2.1, m.2.2.2.2.2.1, m.2.2.2.2.2.2.1, m.2.2.2.2.2.2.2.1, m.2.2.2.2.2.2.2.2.1, m.2.2.2.2.2.2.2.2.2.1, m.2.2.2.2.2.2.2.2.2.2.1, t, ()) b := c2f
end Go.Ax.TryP
set_option linter.unusedVariables false
namespace Go.Ax.TryP
open Go.Proofs
theorem a62 {α : Type} {w : Nat} {b : List Int} {K : Int → List Int → Int ⊕ α} {e : Int} (h : rdN w b K = .inl e) : e = 8 ∨ ∃ n b', K n b' = .inl e := by
 unfold rdN at h
 split at h
 ·cases h; exact .inl rfl
 ·exact .inr ⟨_, _, h⟩
theorem c0C {α : Type} {most : Int} {b : List Int} {K : List Int → List Int → Int ⊕ α} {e : Int} (h : rdT most b K = .inl e) : (e = 8 ∨ e = 3) ∨ ∃ n b', K n b' = .inl e := by
 rcases a62 h with h | ⟨n, b', h⟩
 ·exact .inl (.inl h)
 ·split at h
  ·cases h; exact .inl (.inr rfl)
  ·split at h
   ·cases h; exact .inl (.inl rfl)
   ·exact .inr ⟨_, _, h⟩
theorem c0B {c : Int} {m : Ms} {b : List Int} {K : Ms → List Int → Int ⊕ (Ms × List Int)} {e : Int} (h : rdC c m b K = .inl e) : (e = 8 ∨ e = 3) ∨ ∃ m b', K m b' = .inl e := by
 have n1 : ∀ {w : Nat} {b : List Int} {G : Int → List Int → Int ⊕ (Ms × List Int)}, rdN w b G = .inl e → (∀ n b', G n b' = .inl e → (e = 8 ∨ e = 3) ∨ ∃ m b', K m b' = .inl e) → (e = 8 ∨ e = 3) ∨ ∃ m b', K m b' = .inl e := fun h hG => by
  rcases a62 h with h | ⟨n, b', h⟩
  ·exact .inl (.inl h)
  ·exact hG _ _ h
 have t1 : ∀ {w : Int} {b : List Int} {G : List Int → List Int → Int ⊕ (Ms × List Int)}, rdT w b G = .inl e → (∀ n b', G n b' = .inl e → (e = 8 ∨ e = 3) ∨ ∃ m b', K m b' = .inl e) → (e = 8 ∨ e = 3) ∨ ∃ m b', K m b' = .inl e := fun h hG => by
  rcases c0C h with h | ⟨n, b', h⟩
  ·exact .inl h
  ·exact hG _ _ h
 unfold rdC at h
 split at h
 ·exact n1 h fun _ _ h => .inr ⟨_, _, h⟩
 split at h
 ·exact n1 h fun _ _ h => n1 h fun _ _ h => .inr ⟨_, _, h⟩
 split at h
 ·exact n1 h fun _ _ h => .inr ⟨_, _, h⟩
 split at h
 ·exact n1 h fun _ _ h => .inr ⟨_, _, h⟩
 split at h
 ·exact t1 h fun _ _ h => .inr ⟨_, _, h⟩
 split at h
 ·exact t1 h fun _ _ h => .inr ⟨_, _, h⟩
 split at h
 ·exact t1 h fun _ _ h => .inr ⟨_, _, h⟩
 exact .inr ⟨_, _, h⟩
theorem b8a {e : Int} : ∀ (l : List Int) {m : Ms} {b : List Int}, a7l l m b = .inl e → e = 8 ∨ e = 3
 | [], m, b, h => by cases h
 | c :: l, m, b, h => by
  rcases c0B h with h | ⟨m', b', h⟩
  ·exact h
  ·exact b8a l h
theorem c0A {b : List Int} {e : Int} (h : rdA b = .inl e) : e = 8 ∨ e = 3 ∨ e = 211 := by
 unfold rdA at h
 rcases a62 h with h | ⟨n, b1, h⟩
 ·exact .inl h
 split at h
 ·cases h; exact .inr (.inr rfl)
 rcases a62 h with h | ⟨_, b2, h⟩
 ·exact .inl h
 rcases a62 h with h | ⟨_, b3, h⟩
 ·exact .inl h
 rcases a62 h with h | ⟨_, b4, h⟩
 ·exact .inl h
 rcases b8a _ h with h | h
 ·exact .inl h
 ·exact .inr (.inl h)
theorem b89 {b : List Int} (h : (w5 b).2 = 0) : ∃ m, rdA b = .inr (m, []) ∧ A4 m = 0 ∧ w5 b = (m, 0) := by
 unfold w5 at h ⊢
 cases e : rdA b with
 | inl x =>
  rw [e] at h
  rcases c0A e with h1 | h1 | h1 <;> subst h1 <;> exact absurd h (by decide)
 | inr z =>
  obtain ⟨m, r⟩ := z
  rw [e] at h
  simp only [b2O] at h ⊢
  split at h
  ·exact absurd h (by decide)
  ·rename_i hr
   have hr0 : r = [] := List.eq_nil_of_length_eq_zero (by omega)
   subst hr0
   split at h
   ·rename_i hc
    exact ⟨m, rfl, hc, by simp [hc]⟩
   ·rename_i hc
    exact absurd h hc
theorem b7C {b : List Int} (h : (w5 b).2 ≠ 0) : (w5 b).1 = zM := by
 unfold w5 at h ⊢
 cases e : rdA b with
 | inl x => rfl
 | inr z =>
  obtain ⟨m, r⟩ := z
  rw [e] at h
  simp only [b2O] at h ⊢
  split
  ·rfl
  ·rename_i hr
   rw [if_neg hr] at h
   split
   ·rename_i hc; rw [if_pos hc] at h; exact absurd rfl h
   ·rfl
theorem b7U : Y3 zM := by
 have hM := b7R
 unfold Y3 zM
 dsimp only
 refine ⟨by omega, by omega, by omega, by omega, by omega, by omega, by omega, by omega, by omega, ⟨by simp, ?_⟩, ⟨by simp, ?_⟩, ⟨by simp, ?_⟩⟩ <;> exact fun z hz => by cases hz
theorem b1D {c : List Int} (hb : bytes c) {w : Nat} (hl : c.length = w) : 0 ≤ a3Q c ∧ a3Q c < 256 ^ w := a1f w hl hb
theorem c1w {c : Int} {m : Ms} {b : List Int} {K : Ms → List Int → Int ⊕ (Ms × List Int)} {z : Ms × List Int} {p : Prop} (hm : Y3 m) (hb : bytes b) (hK : ∀ m b', Y3 m → bytes b' → K m b' = .inr z → p) (h : rdC c m b K = .inr z) : p := by
 have hM := b7R
 have e2 : (256 : Int) ^ 2 = 65536 := by decide
 have e4 : (256 : Int) ^ 4 = 4294967296 := by decide
 have e8 : (256 : Int) ^ 8 = 18446744073709551616 := by decide
 obtain ⟨k, f, t, i, key, lo, hi, pt, ps, d, ce, sg, u⟩ := m
 obtain ⟨m1, m2, m3, m4, m5, m6, m7, m8, m9, m10, m11, m12⟩ := hm
 unfold rdC at h
 split at h
 ·obtain ⟨c1, b1, rfl, l1, h⟩ := a0X h
  have q := b1D (a7z hb) l1
  refine hK _ _ ?_ (Q3 hb) h
  exact ⟨m1, m2, m3, m4, by dsimp only; omega, m6, m7, m8, m9, m10, m11, m12⟩
 split at h
 ·obtain ⟨c1, b1, rfl, l1, h⟩ := a0X h
  obtain ⟨c2, b2, rfl, l2, h⟩ := a0X h
  have q := b1D (a7z hb) l1
  have q2 := b1D (a7z (Q3 hb)) l2
  refine hK _ _ ?_ (Q3 (Q3 hb)) h
  exact ⟨m1, m2, m3, m4, m5, by dsimp only; omega, by dsimp only; omega, m8, m9, m10, m11, m12⟩
 split at h
 ·obtain ⟨c1, b1, rfl, l1, h⟩ := a0X h
  have q := b1D (a7z hb) l1
  refine hK _ _ ?_ (Q3 hb) h
  exact ⟨m1, m2, m3, m4, m5, m6, m7, by dsimp only; omega, m9, m10, m11, m12⟩
 split at h
 ·obtain ⟨c1, b1, rfl, l1, h⟩ := a0X h
  have q := b1D (a7z hb) l1
  refine hK _ _ ?_ (Q3 hb) h
  exact ⟨m1, m2, m3, m4, m5, m6, m7, m8, by dsimp only; omega, m10, m11, m12⟩
 split at h
 ·obtain ⟨c1, t1, b1, rfl, l1, n1, k1, h⟩ := b4Q hb h
  refine hK _ _ ?_ (Q3 (Q3 hb)) h
  exact ⟨m1, m2, m3, m4, m5, m6, m7, m8, m9, ⟨by dsimp only; omega, a7z (Q3 hb)⟩, m11, m12⟩
 split at h
 ·obtain ⟨c1, t1, b1, rfl, l1, n1, k1, h⟩ := b4Q hb h
  refine hK _ _ ?_ (Q3 (Q3 hb)) h
  exact ⟨m1, m2, m3, m4, m5, m6, m7, m8, m9, m10, ⟨by dsimp only; omega, a7z (Q3 hb)⟩, m12⟩
 split at h
 ·obtain ⟨c1, t1, b1, rfl, l1, n1, k1, h⟩ := b4Q hb h
  refine hK _ _ ?_ (Q3 (Q3 hb)) h
  exact ⟨m1, m2, m3, m4, m5, m6, m7, m8, m9, m10, m11, ⟨by dsimp only; omega, a7z (Q3 hb)⟩⟩
 exact hK _ _ ⟨m1, m2, m3, m4, m5, m6, m7, m8, m9, m10, m11, m12⟩ hb h
theorem b9Y {z : Ms} {r : List Int} : ∀ (l : List Int) (m : Ms) (b : List Int), Y3 m → bytes b → a7l l m b = .inr (z, r) → Y3 z
 | [], m, b, hm, hb, h => by cases h; exact hm
 | c :: l, m, b, hm, hb, h => c1w hm hb (fun m b' hm hb h => b9Y l m b' hm hb h) h
theorem c1v {b : List Int} (hb : bytes b) {z : Ms} {r : List Int} (h : rdA b = .inr (z, r)) : Y3 z := by
 have hM := b7R
 have e1 : (256 : Int) ^ 1 = 256 := by decide
 have e4 : (256 : Int) ^ 4 = 4294967296 := by decide
 unfold rdA at h
 obtain ⟨c1, b1, rfl, l1, h⟩ := a0X h
 split at h
 ·cases h
 obtain ⟨c2, b2, rfl, l2, h⟩ := a0X h
 obtain ⟨c3, b3, rfl, l3, h⟩ := a0X h
 obtain ⟨c4, b4, rfl, l4, h⟩ := a0X h
 have q1 := b1D (a7z hb) l1
 have q2 := b1D (a7z (Q3 hb)) l2
 have q3 := b1D (a7z (Q3 (Q3 hb))) l3
 have q4 := b1D (a7z (Q3 (Q3 (Q3 hb)))) l4
 refine b9Y _ _ _ ?_ (Q3 (Q3 (Q3 (Q3 hb)))) h
 obtain ⟨_, _, _, _, m5, m6, m7, m8, m9, m10, m11, m12⟩ := b7U
 exact ⟨by dsimp only; omega, by dsimp only; omega, by dsimp only; omega, by dsimp only; omega, m5, m6, m7, m8, m9, m10, m11, m12⟩
theorem c0n {b : List Int} (hb : bytes b) : Y3 (w5 b).1 := by
 by_cases h : (w5 b).2 = 0
 ·obtain ⟨m, h1, h2, h3⟩ := b89 h
  rw [h3]
  exact c1v hb h1
 ·rw [b7C h]
  exact b7U
end Go.Ax.TryP
set_option linter.unusedVariables false
namespace Go.Ax.TryP
open Go.Proofs
noncomputable def p_octet_BigOf_E : AE := AE.of [(5, ty5), (26, ty26), (29, ty29)] []
noncomputable def a3r : Hints := [(5, [4, 15, 16, 17]), (2000000, [4]), (2000001, [4, 15, 16, 17]), (3000000, [2, 3])]
noncomputable def U9 : Code := (Try.f67).body.getD .skip
noncomputable def a5H : Shape := mkS { tmps := pv 4 (.sc (.int .u64) :: pv 10 (.sc (.vec 0 none 1) :: .sc (.int .i64) :: .sc (.int .i64) :: pv 10 [])), mem := [.live [.xs b8 none] (.ro)] } [.int, .nat, .int, .int, .nat, .xs]
noncomputable def y6 (N : Nat) (β : Type) (x : W9) (kn : W9 → Option β) (ke : ((Int × Unit)) → Option β) : Option β :=
 if (x.2.2.2.1 < x.2.2.1) then
  if 0 ≤ x.2.2.2.1 then (
  if x.2.2.2.1 < ((x.2.1 : Nat) : Int) then (
  if (x.2.2.2.1.toNat) < x.2.2.2.2.1 then (
  kn ((ior IntKind.u64 (c0T IntKind.u64 x.1 (8:Int)) (IntKind.u64.wrap (List.getD x.2.2.2.2.2.1 (x.2.2.2.1.toNat) 0))), x.2.1, x.2.2.1, (IntKind.i64.wrap (x.2.2.2.1 + (1:Int))), x.2.2.2.2.1, x.2.2.2.2.2.1, ())) else none) else none) else none
 else
  ke (x.1, ())
noncomputable def a4U : Go' ((Int × Unit)) := fun y K => K (.exit 0) (fSt { tmps := pv 4 (.sc (.int .u64) :: pv 23 []), mem := [] } [.int] y)
noncomputable def a0p (N : Nat) : LT := upd (LT.nil) 5 (a3c a5H N (y6 N) a4U)
theorem a4V (N : Nat) : OkAll p_octet_BigOf_E a3r N (a0p N) (x9 U9) :=
 J4 (c := L5 5 U9) (OkAll.nil) (by kernel_rfl) (fun x => by kernel_rfl) (fun β x kn ke => by kernel_rfl)
abbrev B2 : List Kd := [.sl b8]
abbrev B3 : List Kd := [.int .u64, .int .i64]
noncomputable def S2 (N : Nat) (x : List Int × Unit) : Option (Int × Int) :=
 if ((((List.length x.1) : Nat) : Int) < (1:Int)) then
  some ((0:Int), (1:Int))
 else
  if ((((List.length x.1) : Nat) : Int) > (8:Int)) then
   some ((0:Int), (1:Int))
  else
   a5p (y6 N) N ((0:Int), (List.length x.1), (((List.length x.1) : Nat) : Int), (0:Int), (List.length x.1), x.1, ()) fun y1 => (
   some (y1.1, (0:Int)))
theorem a6O : p_octet_BigOf_E.Ok Try.prog := AE.of_ok (all_cons Y0 (all_cons I7 (all_cons v6 c6))) c6
theorem a7W (hE : p_octet_BigOf_E.Ok Try.prog) {g : Ds B2 → Option (Rs B3)} (hg : ∀ x r, g x = some r → ∃ N, S2 N x = some r) : i0 Try.prog 67 ⟨B2, B3, g⟩ :=
 p8 (E := p_octet_BigOf_E) (H := a3r) (L := fun N => a0p N) (c := U9) (ks := B2) (rs := B3) (F := S2) hE mix Try.func67 (by kernel_rfl) (fun N => a4V N) (fun _ _ => by kernel_rfl) hg
noncomputable def p_ref01_Number_E : AE := AE.of [(5, ty5), (26, ty26), (29, ty29)] []
noncomputable def a2z : Hints := [(3, [3, 6, 7, 8]), (2000000, [3]), (2000001, [3, 6, 7, 8]), (3000000, [2])]
noncomputable def R1 : Code := (Try.f69).body.getD .skip
noncomputable def a4W : Shape := mkS { tmps := pv 3 (.sc (.int .u64) :: V :: V :: .sc (.vec 0 none 1) :: .sc (.int .i64) :: .sc (.int .i64) :: pv 10 []), mem := [.live [.xs b8 none] (.ro)] } [.int, .nat, .int, .int, .nat, .xs]
noncomputable def w8 (N : Nat) (β : Type) (x : W9) (kn : W9 → Option β) (ke : ((Int × Unit)) → Option β) : Option β :=
 if (x.2.2.2.1 < x.2.2.1) then
  if 0 ≤ x.2.2.2.1 then (
  if x.2.2.2.1 < ((x.2.1 : Nat) : Int) then (
  if (x.2.2.2.1.toNat) < x.2.2.2.2.1 then (
  kn ((IntKind.u64.wrap ((IntKind.u64.wrap (x.1 * (256:Int))) + (IntKind.u64.wrap (List.getD x.2.2.2.2.2.1 (x.2.2.2.1.toNat) 0)))), x.2.1, x.2.2.1, (IntKind.i64.wrap (x.2.2.2.1 + (1:Int))), x.2.2.2.2.1, x.2.2.2.2.2.1, ())) else none) else none) else none
 else
  ke (x.1, ())
noncomputable def a31 : Go' ((Int × Unit)) := fun y K => K (.exit 0) (fSt { tmps := pv 3 (.sc (.int .u64) :: pv 15 []), mem := [] } [.int] y)
noncomputable def V3 (N : Nat) : LT := upd (LT.nil) 3 (a3c a4W N (w8 N) a31)
theorem a32 (N : Nat) : OkAll p_ref01_Number_E a2z N (V3 N) (x9 R1) :=
 J4 (c := L5 3 R1) (OkAll.nil) (by kernel_rfl) (fun x => by kernel_rfl) (fun β x kn ke => by kernel_rfl)
abbrev z7 : List Kd := [.sl b8]
abbrev M9 : List Kd := [.int .u64]
noncomputable def O0 (N : Nat) (x : List Int × Unit) : Option (Int) :=
 a5p (w8 N) N ((0:Int), (List.length x.1), (((List.length x.1) : Nat) : Int), (0:Int), (List.length x.1), x.1, ()) fun y1 => (
 some y1.1)
theorem a5X : p_ref01_Number_E.Ok Try.prog := AE.of_ok (all_cons Y0 (all_cons I7 (all_cons v6 c6))) c6
theorem a6Z (hE : p_ref01_Number_E.Ok Try.prog) {g : Ds z7 → Option (Rs [.int .u64])} (hg : ∀ x r, g x = some r → ∃ N, O0 N x = some r) : i0 Try.prog 69 ⟨z7, [.int .u64], g⟩ :=
 p8 (E := p_ref01_Number_E) (H := a2z) (L := fun N => V3 N) (c := R1) (ks := z7) (rs := M9) (F := O0) hE mix Try.func69 (by kernel_rfl) (fun N => a32 N) (fun _ _ => by kernel_rfl) hg
noncomputable def p_ref21_reader_raw_E : AE := AE.of [(5, ty5), (29, ty29), (33, ty33), (42, ty42), (77, ty77)] [(31, O1)]
noncomputable def a4f : Hints := [(3000000, [4])]
noncomputable def a4g : Code := (Try.f70).body.getD .skip
abbrev v4 : List Kd := [.io [.fs b8, .int .i64], .int .i64]
abbrev v5 : List Kd := [.sl b8, .cat [.fs b8, .int .i64]]
noncomputable def y7 (N : Nat) (x : (List Int × Int × Unit) × Int × Unit) : Option (List Int × (List Int × Int × Unit)) :=
 if (x.1.2.1 ≠ (0:Int)) then
  if (x.1.2.1 = (0:Int)) then
   if 0 ≤ x.2.1 then (
   if x.2.1 = x.2.1 then (
   if x.2.1 * 1 ≤ 281474976710656 then (
   some ((List.replicate (x.2.1.toNat) 0), (x.1.1, (8:Int), ()))) else none) else none) else none
  else
   if 0 ≤ x.2.1 then (
   if x.2.1 = x.2.1 then (
   if x.2.1 * 1 ≤ 281474976710656 then (
   some ((List.replicate (x.2.1.toNat) 0), (x.1.1, x.1.2.1, ()))) else none) else none) else none
 else
  if (((List.length x.1.1 : Nat) : Int) < x.2.1) then
   if (x.1.2.1 = (0:Int)) then
    if 0 ≤ x.2.1 then (
    if x.2.1 = x.2.1 then (
    if x.2.1 * 1 ≤ 281474976710656 then (
    some ((List.replicate (x.2.1.toNat) 0), (x.1.1, (8:Int), ()))) else none) else none) else none
   else
    if 0 ≤ x.2.1 then (
    if x.2.1 = x.2.1 then (
    if x.2.1 * 1 ≤ 281474976710656 then (
    some ((List.replicate (x.2.1.toNat) 0), (x.1.1, x.1.2.1, ()))) else none) else none) else none
  else
   if 0 ≤ x.2.1 then (
   if x.2.1 ≤ (((List.length x.1.1) : Nat) : Int) then (
   (C7 ([(List.take ((x.2.1.toNat) - 0) (List.drop 0 x.1.1))], ())).bind fun r1 => (
   if 0 ≤ x.2.1 then (
   if x.2.1 ≤ (((List.length x.1.1) : Nat) : Int) then (
   some (r1, ((List.take ((List.length x.1.1) - (x.2.1.toNat)) (List.drop (x.2.1.toNat) x.1.1)), x.1.2.1, ()))) else none) else none)) else none) else none
theorem a2D (e0 : i0 Try.prog 31 O1) : p_ref21_reader_raw_E.Ok Try.prog := AE.of_ok (all_cons Y0 (all_cons v6 (all_cons a49 (all_cons a9W (all_cons b5d c6))))) (all_cons ⟨e0, a04⟩ c6)
theorem a3s (hE : p_ref21_reader_raw_E.Ok Try.prog) {g : Ds v4 → Option (Rs v5)} (hg : ∀ x r, g x = some r → ∃ N, y7 N x = some r) : i0 Try.prog 70 ⟨v4, v5, g⟩ :=
 p8 (E := p_ref21_reader_raw_E) (H := a4f) (L := fun N => LT.nil) (c := a4g) (ks := v4) (rs := v5) (F := y7) hE mix Try.func70 (by kernel_rfl) (fun N => OkAll.nil) (fun _ _ => by kernel_rfl) hg
noncomputable abbrev y0 : Sig := ⟨[.io [.fs b8, .int .i64], .int .i64], [.sl b8, .cat [.fs b8, .int .i64]], q9⟩
noncomputable abbrev a0A : Sig := ⟨[.sl b8], [.int .u64], N6⟩
noncomputable def p_ref21_reader_number_E : AE := AE.of [] [(70, y0), (69, a0A)]
noncomputable def a17 : Hints := [(3000000, [4])]
noncomputable def a18 : Code := (Try.f59).body.getD .skip
abbrev o8 : List Kd := [.io [.fs b8, .int .i64], .int .i64]
abbrev o9 : List Kd := [.int .u64, .cat [.fs b8, .int .i64]]
noncomputable def v3 (N : Nat) (x : (List Int × Int × Unit) × Int × Unit) : Option (Int × (List Int × Int × Unit)) :=
 (q9 ((x.1.1, x.1.2.1, ()), x.2.1, ())).bind fun r1 => (
 (N6 (r1.1, ())).bind fun r2 => (
 some (r2, (r1.2.1, r1.2.2.1, ()))))
theorem a0T (e0 : i0 Try.prog 70 y0) (e1 : i0 Try.prog 69 a0A) : p_ref21_reader_number_E.Ok Try.prog := AE.of_ok c6 (all_cons ⟨e0, J9⟩ (all_cons ⟨e1, a4H⟩ c6))
theorem a1y (hE : p_ref21_reader_number_E.Ok Try.prog) {g : Ds o8 → Option (Rs o9)} (hg : ∀ x r, g x = some r → ∃ N, v3 N x = some r) : i0 Try.prog 59 ⟨o8, o9, g⟩ :=
 p8 (E := p_ref21_reader_number_E) (H := a17) (L := fun N => LT.nil) (c := a18) (ks := o8) (rs := o9) (F := v3) hE mix Try.func59 (by kernel_rfl) (fun N => OkAll.nil) (fun _ _ => by kernel_rfl) hg
noncomputable abbrev u9 : Sig := ⟨[.io [.fs b8, .int .i64], .int .i64], [.int .u64, .cat [.fs b8, .int .i64]], c9⟩
noncomputable def p_ref21_reader_text_E : AE := AE.of [(3, ty3), (26, ty26), (33, ty33), (77, ty77)] [(59, u9), (70, y0)]
noncomputable def a3t : Hints := [(3000000, [4])]
noncomputable def a3u : Code := (Try.f60).body.getD .skip
abbrev u3 : List Kd := [.io [.fs b8, .int .i64], .int .i64]
abbrev u4 : List Kd := [.sl b8, .cat [.fs b8, .int .i64]]
noncomputable def x4 (N : Nat) (x : (List Int × Int × Unit) × Int × Unit) : Option (List Int × (List Int × Int × Unit)) :=
 (c9 ((x.1.1, x.1.2.1, ()), (2:Int), ())).bind fun r1 => (
 if (r1.2.2.1 = (0:Int)) then
  if ((IntKind.i64.wrap r1.1) > x.2.1) then
   if ((3:Int) ≠ (0:Int)) then
    some ([], (r1.2.1, (3:Int), ()))
   else
    (q9 ((r1.2.1, (3:Int), ()), (IntKind.i64.wrap r1.1), ())).bind fun r2 => (
    some (r2.1, (r2.2.1, r2.2.2.1, ())))
  else
   if (r1.2.2.1 ≠ (0:Int)) then
    some ([], (r1.2.1, r1.2.2.1, ()))
   else
    (q9 ((r1.2.1, r1.2.2.1, ()), (IntKind.i64.wrap r1.1), ())).bind fun r3 => (
    some (r3.1, (r3.2.1, r3.2.2.1, ())))
 else
  if (r1.2.2.1 ≠ (0:Int)) then
   some ([], (r1.2.1, r1.2.2.1, ()))
  else
   (q9 ((r1.2.1, r1.2.2.1, ()), (IntKind.i64.wrap r1.1), ())).bind fun r4 => (
   some (r4.1, (r4.2.1, r4.2.2.1, ()))))
theorem a19 (e0 : i0 Try.prog 59 u9) (e1 : i0 Try.prog 70 y0) : p_ref21_reader_text_E.Ok Try.prog := AE.of_ok (all_cons X9 (all_cons I7 (all_cons a49 (all_cons b5d c6)))) (all_cons ⟨e0, F2⟩ (all_cons ⟨e1, J9⟩ c6))
theorem a2E (hE : p_ref21_reader_text_E.Ok Try.prog) {g : Ds u3 → Option (Rs u4)} (hg : ∀ x r, g x = some r → ∃ N, x4 N x = some r) : i0 Try.prog 60 ⟨u3, u4, g⟩ :=
 p8 (E := p_ref21_reader_text_E) (H := a3t) (L := fun N => LT.nil) (c := a3u) (ks := u3) (rs := u4) (F := x4) hE mix Try.func60 (by kernel_rfl) (fun N => OkAll.nil) (fun _ _ => by kernel_rfl) hg
noncomputable abbrev I2 : Sig := ⟨[.io [.fs b8, .int .i64], .int .i64], [.sl b8, .cat [.fs b8, .int .i64]], i6⟩
noncomputable def p_ref21_Get_E : AE := AE.ofI [(3, ty3), (5, ty5), (9, ty9), (25, ty25), (26, ty26), (28, ty28), (29, ty29), (31, ty31), (33, ty33), (77, ty77)] [(15, O2), (59, u9), (60, I2), (26, a1G)] [] [(13, a4N)] [43, 46, 52, 62, 68, 74, 79, 84] [(9, 8)] []
noncomputable def b1V : Hints := [(3000000, [2, 3])]
noncomputable def b1W : Code := (Try.f33).body.getD .skip
abbrev G9 : List Kd := [.fsl b8]
abbrev H0 : List Kd := [.cat [.int .i64, .int .i64, .int .i64, .int .u32, .int .u32, .int .u64, .int .u64, .int .i64, .int .i64, .sl b8, .sl b8, .sl b8], .int .i64]
noncomputable def X0 (N : Nat) (x : List Int × Unit) : Option ((Int × Int × Int × Int × Int × Int × Int × Int × Int × List Int × List Int × List Int × Unit) × Int) :=
 if (((List.length x.1 : Nat) : Int) = (0:Int)) then
  some (((List.getD [0] 0 0), (List.getD [0] 0 0), (List.getD [0] 0 0), (List.getD [0] 0 0), (List.getD [0] 0 0), (List.getD (List.take 1 (List.replicate 2 0)) 0 0), (List.getD (List.drop 1 (List.replicate 2 0)) 0 0), (List.getD [0] 0 0), (List.getD [0] 0 0), [], [], [], ()), (8:Int))
 else
  if 0 ≤ (0:Int) then (
  if (0:Int) < ((List.length x.1 : Nat) : Int) then (
  (O6 ((List.getD (List.set [0] 0 (IntKind.i64.wrap (List.getD x.1 0 0))) 0 0), ())).bind fun r1 => (
  if (r1 = (⟨#[]⟩ : ByteArray)) then
   some (((List.getD [0] 0 0), (List.getD [0] 0 0), (List.getD [0] 0 0), (List.getD [0] 0 0), (List.getD [0] 0 0), (List.getD (List.take 1 (List.replicate 2 0)) 0 0), (List.getD (List.drop 1 (List.replicate 2 0)) 0 0), (List.getD [0] 0 0), (List.getD [0] 0 0), [], [], [], ()), (211:Int))
  else
   if 1 ≤ (List.length x.1) then (
   (c9 (((List.take ((List.length x.1) - 1) (List.drop 1 x.1)), (List.getD [0] 0 0), ()), (1:Int), ())).bind fun r2 => (
   (c9 ((r2.2.1, r2.2.2.1, ()), (1:Int), ())).bind fun r3 => (
   (c9 ((r3.2.1, r3.2.2.1, ()), (4:Int), ())).bind fun r4 => (
   if ((List.getD (List.set [0] 0 (IntKind.i64.wrap (List.getD x.1 0 0))) 0 0) = (1:Int)) then
    (c9 ((r4.2.1, r4.2.2.1, ()), (4:Int), ())).bind fun r5 => (
    (c9 ((r5.2.1, r5.2.2.1, ()), (8:Int), ())).bind fun r6 => (
    (c9 ((r6.2.1, r6.2.2.1, ()), (8:Int), ())).bind fun r7 => (
    (i6 ((r7.2.1, r7.2.2.1, ()), (1024:Int), ())).bind fun r8 => (
    (i6 ((r8.2.1, r8.2.2.1, ()), (6446:Int), ())).bind fun r9 => (
    if (r9.2.2.1 = (0:Int)) then
     if (((List.length r9.2.1 : Nat) : Int) > (0:Int)) then
      if ((212:Int) = (0:Int)) then
       (i3 (((List.getD (List.set [0] 0 (IntKind.i64.wrap (List.getD x.1 0 0))) 0 0), (List.getD (List.set [0] 0 (IntKind.i64.wrap r2.1)) 0 0), (List.getD (List.set [0] 0 (IntKind.i64.wrap r3.1)) 0 0), (List.getD (List.set [0] 0 (IntKind.u32.wrap r4.1)) 0 0), (List.getD (List.set [0] 0 (IntKind.u32.wrap r5.1)) 0 0), (List.getD (List.take 1 (List.set (List.set (List.replicate 2 0) 0 r6.1) 1 r7.1)) 0 0), (List.getD (List.drop 1 (List.set (List.set (List.replicate 2 0) 0 r6.1) 1 r7.1)) 0 0), (List.getD [0] 0 0), (List.getD [0] 0 0), r8.1, r9.1, [], ()), ())).bind fun r10 => (
       if (r10 ≠ (0:Int)) then
        some (((List.getD [0] 0 0), (List.getD [0] 0 0), (List.getD [0] 0 0), (List.getD [0] 0 0), (List.getD [0] 0 0), (List.getD (List.take 1 (List.replicate 2 0)) 0 0), (List.getD (List.drop 1 (List.replicate 2 0)) 0 0), (List.getD [0] 0 0), (List.getD [0] 0 0), [], [], [], ()), r10)
       else
        some (((List.getD (List.set [0] 0 (IntKind.i64.wrap (List.getD x.1 0 0))) 0 0), (List.getD (List.set [0] 0 (IntKind.i64.wrap r2.1)) 0 0), (List.getD (List.set [0] 0 (IntKind.i64.wrap r3.1)) 0 0), (List.getD (List.set [0] 0 (IntKind.u32.wrap r4.1)) 0 0), (List.getD (List.set [0] 0 (IntKind.u32.wrap r5.1)) 0 0), (List.getD (List.take 1 (List.set (List.set (List.replicate 2 0) 0 r6.1) 1 r7.1)) 0 0), (List.getD (List.drop 1 (List.set (List.set (List.replicate 2 0) 0 r6.1) 1 r7.1)) 0 0), (List.getD [0] 0 0), (List.getD [0] 0 0), r8.1, r9.1, [], ()), (0:Int)))
      else
       if ((212:Int) ≠ (0:Int)) then
        some (((List.getD [0] 0 0), (List.getD [0] 0 0), (List.getD [0] 0 0), (List.getD [0] 0 0), (List.getD [0] 0 0), (List.getD (List.take 1 (List.replicate 2 0)) 0 0), (List.getD (List.drop 1 (List.replicate 2 0)) 0 0), (List.getD [0] 0 0), (List.getD [0] 0 0), [], [], [], ()), (212:Int))
       else
        some (((List.getD (List.set [0] 0 (IntKind.i64.wrap (List.getD x.1 0 0))) 0 0), (List.getD (List.set [0] 0 (IntKind.i64.wrap r2.1)) 0 0), (List.getD (List.set [0] 0 (IntKind.i64.wrap r3.1)) 0 0), (List.getD (List.set [0] 0 (IntKind.u32.wrap r4.1)) 0 0), (List.getD (List.set [0] 0 (IntKind.u32.wrap r5.1)) 0 0), (List.getD (List.take 1 (List.set (List.set (List.replicate 2 0) 0 r6.1) 1 r7.1)) 0 0), (List.getD (List.drop 1 (List.set (List.set (List.replicate 2 0) 0 r6.1) 1 r7.1)) 0 0), (List.getD [0] 0 0), (List.getD [0] 0 0), r8.1, r9.1, [], ()), (0:Int))
     else
      if (r9.2.2.1 = (0:Int)) then
       (i3 (((List.getD (List.set [0] 0 (IntKind.i64.wrap (List.getD x.1 0 0))) 0 0), (List.getD (List.set [0] 0 (IntKind.i64.wrap r2.1)) 0 0), (List.getD (List.set [0] 0 (IntKind.i64.wrap r3.1)) 0 0), (List.getD (List.set [0] 0 (IntKind.u32.wrap r4.1)) 0 0), (List.getD (List.set [0] 0 (IntKind.u32.wrap r5.1)) 0 0), (List.getD (List.take 1 (List.set (List.set (List.replicate 2 0) 0 r6.1) 1 r7.1)) 0 0), (List.getD (List.drop 1 (List.set (List.set (List.replicate 2 0) 0 r6.1) 1 r7.1)) 0 0), (List.getD [0] 0 0), (List.getD [0] 0 0), r8.1, r9.1, [], ()), ())).bind fun r11 => (
       if (r11 ≠ (0:Int)) then
        some (((List.getD [0] 0 0), (List.getD [0] 0 0), (List.getD [0] 0 0), (List.getD [0] 0 0), (List.getD [0] 0 0), (List.getD (List.take 1 (List.replicate 2 0)) 0 0), (List.getD (List.drop 1 (List.replicate 2 0)) 0 0), (List.getD [0] 0 0), (List.getD [0] 0 0), [], [], [], ()), r11)
       else
        some (((List.getD (List.set [0] 0 (IntKind.i64.wrap (List.getD x.1 0 0))) 0 0), (List.getD (List.set [0] 0 (IntKind.i64.wrap r2.1)) 0 0), (List.getD (List.set [0] 0 (IntKind.i64.wrap r3.1)) 0 0), (List.getD (List.set [0] 0 (IntKind.u32.wrap r4.1)) 0 0), (List.getD (List.set [0] 0 (IntKind.u32.wrap r5.1)) 0 0), (List.getD (List.take 1 (List.set (List.set (List.replicate 2 0) 0 r6.1) 1 r7.1)) 0 0), (List.getD (List.drop 1 (List.set (List.set (List.replicate 2 0) 0 r6.1) 1 r7.1)) 0 0), (List.getD [0] 0 0), (List.getD [0] 0 0), r8.1, r9.1, [], ()), (0:Int)))
      else
       if (r9.2.2.1 ≠ (0:Int)) then
        some (((List.getD [0] 0 0), (List.getD [0] 0 0), (List.getD [0] 0 0), (List.getD [0] 0 0), (List.getD [0] 0 0), (List.getD (List.take 1 (List.replicate 2 0)) 0 0), (List.getD (List.drop 1 (List.replicate 2 0)) 0 0), (List.getD [0] 0 0), (List.getD [0] 0 0), [], [], [], ()), r9.2.2.1)
       else
        some (((List.getD (List.set [0] 0 (IntKind.i64.wrap (List.getD x.1 0 0))) 0 0), (List.getD (List.set [0] 0 (IntKind.i64.wrap r2.1)) 0 0), (List.getD (List.set [0] 0 (IntKind.i64.wrap r3.1)) 0 0), (List.getD (List.set [0] 0 (IntKind.u32.wrap r4.1)) 0 0), (List.getD (List.set [0] 0 (IntKind.u32.wrap r5.1)) 0 0), (List.getD (List.take 1 (List.set (List.set (List.replicate 2 0) 0 r6.1) 1 r7.1)) 0 0), (List.getD (List.drop 1 (List.set (List.set (List.replicate 2 0) 0 r6.1) 1 r7.1)) 0 0), (List.getD [0] 0 0), (List.getD [0] 0 0), r8.1, r9.1, [], ()), (0:Int))
    else
     if (r9.2.2.1 = (0:Int)) then
      (i3 (((List.getD (List.set [0] 0 (IntKind.i64.wrap (List.getD x.1 0 0))) 0 0), (List.getD (List.set [0] 0 (IntKind.i64.wrap r2.1)) 0 0), (List.getD (List.set [0] 0 (IntKind.i64.wrap r3.1)) 0 0), (List.getD (List.set [0] 0 (IntKind.u32.wrap r4.1)) 0 0), (List.getD (List.set [0] 0 (IntKind.u32.wrap r5.1)) 0 0), (List.getD (List.take 1 (List.set (List.set (List.replicate 2 0) 0 r6.1) 1 r7.1)) 0 0), (List.getD (List.drop 1 (List.set (List.set (List.replicate 2 0) 0 r6.1) 1 r7.1)) 0 0), (List.getD [0] 0 0), (List.getD [0] 0 0), r8.1, r9.1, [], ()), ())).bind fun r12 => (
      if (r12 ≠ (0:Int)) then
       some (((List.getD [0] 0 0), (List.getD [0] 0 0), (List.getD [0] 0 0), (List.getD [0] 0 0), (List.getD [0] 0 0), (List.getD (List.take 1 (List.replicate 2 0)) 0 0), (List.getD (List.drop 1 (List.replicate 2 0)) 0 0), (List.getD [0] 0 0), (List.getD [0] 0 0), [], [], [], ()), r12)
      else
       some (((List.getD (List.set [0] 0 (IntKind.i64.wrap (List.getD x.1 0 0))) 0 0), (List.getD (List.set [0] 0 (IntKind.i64.wrap r2.1)) 0 0), (List.getD (List.set [0] 0 (IntKind.i64.wrap r3.1)) 0 0), (List.getD (List.set [0] 0 (IntKind.u32.wrap r4.1)) 0 0), (List.getD (List.set [0] 0 (IntKind.u32.wrap r5.1)) 0 0), (List.getD (List.take 1 (List.set (List.set (List.replicate 2 0) 0 r6.1) 1 r7.1)) 0 0), (List.getD (List.drop 1 (List.set (List.set (List.replicate 2 0) 0 r6.1) 1 r7.1)) 0 0), (List.getD [0] 0 0), (List.getD [0] 0 0), r8.1, r9.1, [], ()), (0:Int)))
     else
      if (r9.2.2.1 ≠ (0:Int)) then
       some (((List.getD [0] 0 0), (List.getD [0] 0 0), (List.getD [0] 0 0), (List.getD [0] 0 0), (List.getD [0] 0 0), (List.getD (List.take 1 (List.replicate 2 0)) 0 0), (List.getD (List.drop 1 (List.replicate 2 0)) 0 0), (List.getD [0] 0 0), (List.getD [0] 0 0), [], [], [], ()), r9.2.2.1)
      else
       some (((List.getD (List.set [0] 0 (IntKind.i64.wrap (List.getD x.1 0 0))) 0 0), (List.getD (List.set [0] 0 (IntKind.i64.wrap r2.1)) 0 0), (List.getD (List.set [0] 0 (IntKind.i64.wrap r3.1)) 0 0), (List.getD (List.set [0] 0 (IntKind.u32.wrap r4.1)) 0 0), (List.getD (List.set [0] 0 (IntKind.u32.wrap r5.1)) 0 0), (List.getD (List.take 1 (List.set (List.set (List.replicate 2 0) 0 r6.1) 1 r7.1)) 0 0), (List.getD (List.drop 1 (List.set (List.set (List.replicate 2 0) 0 r6.1) 1 r7.1)) 0 0), (List.getD [0] 0 0), (List.getD [0] 0 0), r8.1, r9.1, [], ()), (0:Int)))))))
   else
    if ((List.getD (List.set [0] 0 (IntKind.i64.wrap (List.getD x.1 0 0))) 0 0) = (2:Int)) then
     (c9 ((r4.2.1, r4.2.2.1, ()), (4:Int), ())).bind fun r13 => (
     (c9 ((r13.2.1, r13.2.2.1, ()), (8:Int), ())).bind fun r14 => (
     (c9 ((r14.2.1, r14.2.2.1, ()), (8:Int), ())).bind fun r15 => (
     (i6 ((r15.2.1, r15.2.2.1, ()), (6446:Int), ())).bind fun r16 => (
     (i6 ((r16.2.1, r16.2.2.1, ()), (3309:Int), ())).bind fun r17 => (
     if (r17.2.2.1 = (0:Int)) then
      if (((List.length r17.2.1 : Nat) : Int) > (0:Int)) then
       if ((212:Int) = (0:Int)) then
        (i3 (((List.getD (List.set [0] 0 (IntKind.i64.wrap (List.getD x.1 0 0))) 0 0), (List.getD (List.set [0] 0 (IntKind.i64.wrap r2.1)) 0 0), (List.getD (List.set [0] 0 (IntKind.i64.wrap r3.1)) 0 0), (List.getD (List.set [0] 0 (IntKind.u32.wrap r4.1)) 0 0), (List.getD (List.set [0] 0 (IntKind.u32.wrap r13.1)) 0 0), (List.getD (List.take 1 (List.set (List.set (List.replicate 2 0) 0 r14.1) 1 r15.1)) 0 0), (List.getD (List.drop 1 (List.set (List.set (List.replicate 2 0) 0 r14.1) 1 r15.1)) 0 0), (List.getD [0] 0 0), (List.getD [0] 0 0), [], r16.1, r17.1, ()), ())).bind fun r18 => (
        if (r18 ≠ (0:Int)) then
         some (((List.getD [0] 0 0), (List.getD [0] 0 0), (List.getD [0] 0 0), (List.getD [0] 0 0), (List.getD [0] 0 0), (List.getD (List.take 1 (List.replicate 2 0)) 0 0), (List.getD (List.drop 1 (List.replicate 2 0)) 0 0), (List.getD [0] 0 0), (List.getD [0] 0 0), [], [], [], ()), r18)
        else
         some (((List.getD (List.set [0] 0 (IntKind.i64.wrap (List.getD x.1 0 0))) 0 0), (List.getD (List.set [0] 0 (IntKind.i64.wrap r2.1)) 0 0), (List.getD (List.set [0] 0 (IntKind.i64.wrap r3.1)) 0 0), (List.getD (List.set [0] 0 (IntKind.u32.wrap r4.1)) 0 0), (List.getD (List.set [0] 0 (IntKind.u32.wrap r13.1)) 0 0), (List.getD (List.take 1 (List.set (List.set (List.replicate 2 0) 0 r14.1) 1 r15.1)) 0 0), (List.getD (List.drop 1 (List.set (List.set (List.replicate 2 0) 0 r14.1) 1 r15.1)) 0 0), (List.getD [0] 0 0), (List.getD [0] 0 0), [], r16.1, r17.1, ()), (0:Int)))
       else
        if ((212:Int) ≠ (0:Int)) then
         some (((List.getD [0] 0 0), (List.getD [0] 0 0), (List.getD [0] 0 0), (List.getD [0] 0 0), (List.getD [0] 0 0), (List.getD (List.take 1 (List.replicate 2 0)) 0 0), (List.getD (List.drop 1 (List.replicate 2 0)) 0 0), (List.getD [0] 0 0), (List.getD [0] 0 0), [], [], [], ()), (212:Int))
        else
         some (((List.getD (List.set [0] 0 (IntKind.i64.wrap (List.getD x.1 0 0))) 0 0), (List.getD (List.set [0] 0 (IntKind.i64.wrap r2.1)) 0 0), (List.getD (List.set [0] 0 (IntKind.i64.wrap r3.1)) 0 0), (List.getD (List.set [0] 0 (IntKind.u32.wrap r4.1)) 0 0), (List.getD (List.set [0] 0 (IntKind.u32.wrap r13.1)) 0 0), (List.getD (List.take 1 (List.set (List.set (List.replicate 2 0) 0 r14.1) 1 r15.1)) 0 0), (List.getD (List.drop 1 (List.set (List.set (List.replicate 2 0) 0 r14.1) 1 r15.1)) 0 0), (List.getD [0] 0 0), (List.getD [0] 0 0), [], r16.1, r17.1, ()), (0:Int))
      else
       if (r17.2.2.1 = (0:Int)) then
        (i3 (((List.getD (List.set [0] 0 (IntKind.i64.wrap (List.getD x.1 0 0))) 0 0), (List.getD (List.set [0] 0 (IntKind.i64.wrap r2.1)) 0 0), (List.getD (List.set [0] 0 (IntKind.i64.wrap r3.1)) 0 0), (List.getD (List.set [0] 0 (IntKind.u32.wrap r4.1)) 0 0), (List.getD (List.set [0] 0 (IntKind.u32.wrap r13.1)) 0 0), (List.getD (List.take 1 (List.set (List.set (List.replicate 2 0) 0 r14.1) 1 r15.1)) 0 0), (List.getD (List.drop 1 (List.set (List.set (List.replicate 2 0) 0 r14.1) 1 r15.1)) 0 0), (List.getD [0] 0 0), (List.getD [0] 0 0), [], r16.1, r17.1, ()), ())).bind fun r19 => (
        if (r19 ≠ (0:Int)) then
         some (((List.getD [0] 0 0), (List.getD [0] 0 0), (List.getD [0] 0 0), (List.getD [0] 0 0), (List.getD [0] 0 0), (List.getD (List.take 1 (List.replicate 2 0)) 0 0), (List.getD (List.drop 1 (List.replicate 2 0)) 0 0), (List.getD [0] 0 0), (List.getD [0] 0 0), [], [], [], ()), r19)
        else
         some (((List.getD (List.set [0] 0 (IntKind.i64.wrap (List.getD x.1 0 0))) 0 0), (List.getD (List.set [0] 0 (IntKind.i64.wrap r2.1)) 0 0), (List.getD (List.set [0] 0 (IntKind.i64.wrap r3.1)) 0 0), (List.getD (List.set [0] 0 (IntKind.u32.wrap r4.1)) 0 0), (List.getD (List.set [0] 0 (IntKind.u32.wrap r13.1)) 0 0), (List.getD (List.take 1 (List.set (List.set (List.replicate 2 0) 0 r14.1) 1 r15.1)) 0 0), (List.getD (List.drop 1 (List.set (List.set (List.replicate 2 0) 0 r14.1) 1 r15.1)) 0 0), (List.getD [0] 0 0), (List.getD [0] 0 0), [], r16.1, r17.1, ()), (0:Int)))
       else
        if (r17.2.2.1 ≠ (0:Int)) then
         some (((List.getD [0] 0 0), (List.getD [0] 0 0), (List.getD [0] 0 0), (List.getD [0] 0 0), (List.getD [0] 0 0), (List.getD (List.take 1 (List.replicate 2 0)) 0 0), (List.getD (List.drop 1 (List.replicate 2 0)) 0 0), (List.getD [0] 0 0), (List.getD [0] 0 0), [], [], [], ()), r17.2.2.1)
        else
         some (((List.getD (List.set [0] 0 (IntKind.i64.wrap (List.getD x.1 0 0))) 0 0), (List.getD (List.set [0] 0 (IntKind.i64.wrap r2.1)) 0 0), (List.getD (List.set [0] 0 (IntKind.i64.wrap r3.1)) 0 0), (List.getD (List.set [0] 0 (IntKind.u32.wrap r4.1)) 0 0), (List.getD (List.set [0] 0 (IntKind.u32.wrap r13.1)) 0 0), (List.getD (List.take 1 (List.set (List.set (List.replicate 2 0) 0 r14.1) 1 r15.1)) 0 0), (List.getD (List.drop 1 (List.set (List.set (List.replicate 2 0) 0 r14.1) 1 r15.1)) 0 0), (List.getD [0] 0 0), (List.getD [0] 0 0), [], r16.1, r17.1, ()), (0:Int))
     else
      if (r17.2.2.1 = (0:Int)) then
       (i3 (((List.getD (List.set [0] 0 (IntKind.i64.wrap (List.getD x.1 0 0))) 0 0), (List.getD (List.set [0] 0 (IntKind.i64.wrap r2.1)) 0 0), (List.getD (List.set [0] 0 (IntKind.i64.wrap r3.1)) 0 0), (List.getD (List.set [0] 0 (IntKind.u32.wrap r4.1)) 0 0), (List.getD (List.set [0] 0 (IntKind.u32.wrap r13.1)) 0 0), (List.getD (List.take 1 (List.set (List.set (List.replicate 2 0) 0 r14.1) 1 r15.1)) 0 0), (List.getD (List.drop 1 (List.set (List.set (List.replicate 2 0) 0 r14.1) 1 r15.1)) 0 0), (List.getD [0] 0 0), (List.getD [0] 0 0), [], r16.1, r17.1, ()), ())).bind fun r20 => (
       if (r20 ≠ (0:Int)) then
        some (((List.getD [0] 0 0), (List.getD [0] 0 0), (List.getD [0] 0 0), (List.getD [0] 0 0), (List.getD [0] 0 0), (List.getD (List.take 1 (List.replicate 2 0)) 0 0), (List.getD (List.drop 1 (List.replicate 2 0)) 0 0), (List.getD [0] 0 0), (List.getD [0] 0 0), [], [], [], ()), r20)
       else
        some (((List.getD (List.set [0] 0 (IntKind.i64.wrap (List.getD x.1 0 0))) 0 0), (List.getD (List.set [0] 0 (IntKind.i64.wrap r2.1)) 0 0), (List.getD (List.set [0] 0 (IntKind.i64.wrap r3.1)) 0 0), (List.getD (List.set [0] 0 (IntKind.u32.wrap r4.1)) 0 0), (List.getD (List.set [0] 0 (IntKind.u32.wrap r13.1)) 0 0), (List.getD (List.take 1 (List.set (List.set (List.replicate 2 0) 0 r14.1) 1 r15.1)) 0 0), (List.getD (List.drop 1 (List.set (List.set (List.replicate 2 0) 0 r14.1) 1 r15.1)) 0 0), (List.getD [0] 0 0), (List.getD [0] 0 0), [], r16.1, r17.1, ()), (0:Int)))
      else
       if (r17.2.2.1 ≠ (0:Int)) then
        some (((List.getD [0] 0 0), (List.getD [0] 0 0), (List.getD [0] 0 0), (List.getD [0] 0 0), (List.getD [0] 0 0), (List.getD (List.take 1 (List.replicate 2 0)) 0 0), (List.getD (List.drop 1 (List.replicate 2 0)) 0 0), (List.getD [0] 0 0), (List.getD [0] 0 0), [], [], [], ()), r17.2.2.1)
       else
        some (((List.getD (List.set [0] 0 (IntKind.i64.wrap (List.getD x.1 0 0))) 0 0), (List.getD (List.set [0] 0 (IntKind.i64.wrap r2.1)) 0 0), (List.getD (List.set [0] 0 (IntKind.i64.wrap r3.1)) 0 0), (List.getD (List.set [0] 0 (IntKind.u32.wrap r4.1)) 0 0), (List.getD (List.set [0] 0 (IntKind.u32.wrap r13.1)) 0 0), (List.getD (List.take 1 (List.set (List.set (List.replicate 2 0) 0 r14.1) 1 r15.1)) 0 0), (List.getD (List.drop 1 (List.set (List.set (List.replicate 2 0) 0 r14.1) 1 r15.1)) 0 0), (List.getD [0] 0 0), (List.getD [0] 0 0), [], r16.1, r17.1, ()), (0:Int)))))))
    else
     if ((List.getD (List.set [0] 0 (IntKind.i64.wrap (List.getD x.1 0 0))) 0 0) = (3:Int)) then
      (c9 ((r4.2.1, r4.2.2.1, ()), (2:Int), ())).bind fun r21 => (
      (c9 ((r21.2.1, r21.2.2.1, ()), (2:Int), ())).bind fun r22 => (
      (i6 ((r22.2.1, r22.2.2.1, ()), (1024:Int), ())).bind fun r23 => (
      if (r23.2.2.1 = (0:Int)) then
       if (((List.length r23.2.1 : Nat) : Int) > (0:Int)) then
        if ((212:Int) = (0:Int)) then
         (i3 (((List.getD (List.set [0] 0 (IntKind.i64.wrap (List.getD x.1 0 0))) 0 0), (List.getD (List.set [0] 0 (IntKind.i64.wrap r2.1)) 0 0), (List.getD (List.set [0] 0 (IntKind.i64.wrap r3.1)) 0 0), (List.getD (List.set [0] 0 (IntKind.u32.wrap r4.1)) 0 0), (List.getD [0] 0 0), (List.getD (List.take 1 (List.replicate 2 0)) 0 0), (List.getD (List.drop 1 (List.replicate 2 0)) 0 0), (List.getD (List.set [0] 0 (IntKind.i64.wrap r21.1)) 0 0), (List.getD (List.set [0] 0 (IntKind.i64.wrap r22.1)) 0 0), r23.1, [], [], ()), ())).bind fun r24 => (
         if (r24 ≠ (0:Int)) then
          some (((List.getD [0] 0 0), (List.getD [0] 0 0), (List.getD [0] 0 0), (List.getD [0] 0 0), (List.getD [0] 0 0), (List.getD (List.take 1 (List.replicate 2 0)) 0 0), (List.getD (List.drop 1 (List.replicate 2 0)) 0 0), (List.getD [0] 0 0), (List.getD [0] 0 0), [], [], [], ()), r24)
         else
          some (((List.getD (List.set [0] 0 (IntKind.i64.wrap (List.getD x.1 0 0))) 0 0), (List.getD (List.set [0] 0 (IntKind.i64.wrap r2.1)) 0 0), (List.getD (List.set [0] 0 (IntKind.i64.wrap r3.1)) 0 0), (List.getD (List.set [0] 0 (IntKind.u32.wrap r4.1)) 0 0), (List.getD [0] 0 0), (List.getD (List.take 1 (List.replicate 2 0)) 0 0), (List.getD (List.drop 1 (List.replicate 2 0)) 0 0), (List.getD (List.set [0] 0 (IntKind.i64.wrap r21.1)) 0 0), (List.getD (List.set [0] 0 (IntKind.i64.wrap r22.1)) 0 0), r23.1, [], [], ()), (0:Int)))
        else
         if ((212:Int) ≠ (0:Int)) then
          some (((List.getD [0] 0 0), (List.getD [0] 0 0), (List.getD [0] 0 0), (List.getD [0] 0 0), (List.getD [0] 0 0), (List.getD (List.take 1 (List.replicate 2 0)) 0 0), (List.getD (List.drop 1 (List.replicate 2 0)) 0 0), (List.getD [0] 0 0), (List.getD [0] 0 0), [], [], [], ()), (212:Int))
         else
          some (((List.getD (List.set [0] 0 (IntKind.i64.wrap (List.getD x.1 0 0))) 0 0), (List.getD (List.set [0] 0 (IntKind.i64.wrap r2.1)) 0 0), (List.getD (List.set [0] 0 (IntKind.i64.wrap r3.1)) 0 0), (List.getD (List.set [0] 0 (IntKind.u32.wrap r4.1)) 0 0), (List.getD [0] 0 0), (List.getD (List.take 1 (List.replicate 2 0)) 0 0), (List.getD (List.drop 1 (List.replicate 2 0)) 0 0), (List.getD (List.set [0] 0 (IntKind.i64.wrap r21.1)) 0 0), (List.getD (List.set [0] 0 (IntKind.i64.wrap r22.1)) 0 0), r23.1, [], [], ()), (0:Int))
       else
        if (r23.2.2.1 = (0:Int)) then
         (i3 (((List.getD (List.set [0] 0 (IntKind.i64.wrap (List.getD x.1 0 0))) 0 0), (List.getD (List.set [0] 0 (IntKind.i64.wrap r2.1)) 0 0), (List.getD (List.set [0] 0 (IntKind.i64.wrap r3.1)) 0 0), (List.getD (List.set [0] 0 (IntKind.u32.wrap r4.1)) 0 0), (List.getD [0] 0 0), (List.getD (List.take 1 (List.replicate 2 0)) 0 0), (List.getD (List.drop 1 (List.replicate 2 0)) 0 0), (List.getD (List.set [0] 0 (IntKind.i64.wrap r21.1)) 0 0), (List.getD (List.set [0] 0 (IntKind.i64.wrap r22.1)) 0 0), r23.1, [], [], ()), ())).bind fun r25 => (
         if (r25 ≠ (0:Int)) then
          some (((List.getD [0] 0 0), (List.getD [0] 0 0), (List.getD [0] 0 0), (List.getD [0] 0 0), (List.getD [0] 0 0), (List.getD (List.take 1 (List.replicate 2 0)) 0 0), (List.getD (List.drop 1 (List.replicate 2 0)) 0 0), (List.getD [0] 0 0), (List.getD [0] 0 0), [], [], [], ()), r25)
         else
          some (((List.getD (List.set [0] 0 (IntKind.i64.wrap (List.getD x.1 0 0))) 0 0), (List.getD (List.set [0] 0 (IntKind.i64.wrap r2.1)) 0 0), (List.getD (List.set [0] 0 (IntKind.i64.wrap r3.1)) 0 0), (List.getD (List.set [0] 0 (IntKind.u32.wrap r4.1)) 0 0), (List.getD [0] 0 0), (List.getD (List.take 1 (List.replicate 2 0)) 0 0), (List.getD (List.drop 1 (List.replicate 2 0)) 0 0), (List.getD (List.set [0] 0 (IntKind.i64.wrap r21.1)) 0 0), (List.getD (List.set [0] 0 (IntKind.i64.wrap r22.1)) 0 0), r23.1, [], [], ()), (0:Int)))
        else
         if (r23.2.2.1 ≠ (0:Int)) then
          some (((List.getD [0] 0 0), (List.getD [0] 0 0), (List.getD [0] 0 0), (List.getD [0] 0 0), (List.getD [0] 0 0), (List.getD (List.take 1 (List.replicate 2 0)) 0 0), (List.getD (List.drop 1 (List.replicate 2 0)) 0 0), (List.getD [0] 0 0), (List.getD [0] 0 0), [], [], [], ()), r23.2.2.1)
         else
          some (((List.getD (List.set [0] 0 (IntKind.i64.wrap (List.getD x.1 0 0))) 0 0), (List.getD (List.set [0] 0 (IntKind.i64.wrap r2.1)) 0 0), (List.getD (List.set [0] 0 (IntKind.i64.wrap r3.1)) 0 0), (List.getD (List.set [0] 0 (IntKind.u32.wrap r4.1)) 0 0), (List.getD [0] 0 0), (List.getD (List.take 1 (List.replicate 2 0)) 0 0), (List.getD (List.drop 1 (List.replicate 2 0)) 0 0), (List.getD (List.set [0] 0 (IntKind.i64.wrap r21.1)) 0 0), (List.getD (List.set [0] 0 (IntKind.i64.wrap r22.1)) 0 0), r23.1, [], [], ()), (0:Int))
      else
       if (r23.2.2.1 = (0:Int)) then
        (i3 (((List.getD (List.set [0] 0 (IntKind.i64.wrap (List.getD x.1 0 0))) 0 0), (List.getD (List.set [0] 0 (IntKind.i64.wrap r2.1)) 0 0), (List.getD (List.set [0] 0 (IntKind.i64.wrap r3.1)) 0 0), (List.getD (List.set [0] 0 (IntKind.u32.wrap r4.1)) 0 0), (List.getD [0] 0 0), (List.getD (List.take 1 (List.replicate 2 0)) 0 0), (List.getD (List.drop 1 (List.replicate 2 0)) 0 0), (List.getD (List.set [0] 0 (IntKind.i64.wrap r21.1)) 0 0), (List.getD (List.set [0] 0 (IntKind.i64.wrap r22.1)) 0 0), r23.1, [], [], ()), ())).bind fun r26 => (
        if (r26 ≠ (0:Int)) then
         some (((List.getD [0] 0 0), (List.getD [0] 0 0), (List.getD [0] 0 0), (List.getD [0] 0 0), (List.getD [0] 0 0), (List.getD (List.take 1 (List.replicate 2 0)) 0 0), (List.getD (List.drop 1 (List.replicate 2 0)) 0 0), (List.getD [0] 0 0), (List.getD [0] 0 0), [], [], [], ()), r26)
        else
         some (((List.getD (List.set [0] 0 (IntKind.i64.wrap (List.getD x.1 0 0))) 0 0), (List.getD (List.set [0] 0 (IntKind.i64.wrap r2.1)) 0 0), (List.getD (List.set [0] 0 (IntKind.i64.wrap r3.1)) 0 0), (List.getD (List.set [0] 0 (IntKind.u32.wrap r4.1)) 0 0), (List.getD [0] 0 0), (List.getD (List.take 1 (List.replicate 2 0)) 0 0), (List.getD (List.drop 1 (List.replicate 2 0)) 0 0), (List.getD (List.set [0] 0 (IntKind.i64.wrap r21.1)) 0 0), (List.getD (List.set [0] 0 (IntKind.i64.wrap r22.1)) 0 0), r23.1, [], [], ()), (0:Int)))
       else
        if (r23.2.2.1 ≠ (0:Int)) then
         some (((List.getD [0] 0 0), (List.getD [0] 0 0), (List.getD [0] 0 0), (List.getD [0] 0 0), (List.getD [0] 0 0), (List.getD (List.take 1 (List.replicate 2 0)) 0 0), (List.getD (List.drop 1 (List.replicate 2 0)) 0 0), (List.getD [0] 0 0), (List.getD [0] 0 0), [], [], [], ()), r23.2.2.1)
        else
         some (((List.getD (List.set [0] 0 (IntKind.i64.wrap (List.getD x.1 0 0))) 0 0), (List.getD (List.set [0] 0 (IntKind.i64.wrap r2.1)) 0 0), (List.getD (List.set [0] 0 (IntKind.i64.wrap r3.1)) 0 0), (List.getD (List.set [0] 0 (IntKind.u32.wrap r4.1)) 0 0), (List.getD [0] 0 0), (List.getD (List.take 1 (List.replicate 2 0)) 0 0), (List.getD (List.drop 1 (List.replicate 2 0)) 0 0), (List.getD (List.set [0] 0 (IntKind.i64.wrap r21.1)) 0 0), (List.getD (List.set [0] 0 (IntKind.i64.wrap r22.1)) 0 0), r23.1, [], [], ()), (0:Int)))))
     else
      if ((List.getD (List.set [0] 0 (IntKind.i64.wrap (List.getD x.1 0 0))) 0 0) = (4:Int)) then
       (c9 ((r4.2.1, r4.2.2.1, ()), (2:Int), ())).bind fun r27 => (
       (i6 ((r27.2.1, r27.2.2.1, ()), (1024:Int), ())).bind fun r28 => (
       if (r28.2.2.1 = (0:Int)) then
        if (((List.length r28.2.1 : Nat) : Int) > (0:Int)) then
         if ((212:Int) = (0:Int)) then
          (i3 (((List.getD (List.set [0] 0 (IntKind.i64.wrap (List.getD x.1 0 0))) 0 0), (List.getD (List.set [0] 0 (IntKind.i64.wrap r2.1)) 0 0), (List.getD (List.set [0] 0 (IntKind.i64.wrap r3.1)) 0 0), (List.getD (List.set [0] 0 (IntKind.u32.wrap r4.1)) 0 0), (List.getD [0] 0 0), (List.getD (List.take 1 (List.replicate 2 0)) 0 0), (List.getD (List.drop 1 (List.replicate 2 0)) 0 0), (List.getD [0] 0 0), (List.getD (List.set [0] 0 (IntKind.i64.wrap r27.1)) 0 0), r28.1, [], [], ()), ())).bind fun r29 => (
          if (r29 ≠ (0:Int)) then
           some (((List.getD [0] 0 0), (List.getD [0] 0 0), (List.getD [0] 0 0), (List.getD [0] 0 0), (List.getD [0] 0 0), (List.getD (List.take 1 (List.replicate 2 0)) 0 0), (List.getD (List.drop 1 (List.replicate 2 0)) 0 0), (List.getD [0] 0 0), (List.getD [0] 0 0), [], [], [], ()), r29)
          else
           some (((List.getD (List.set [0] 0 (IntKind.i64.wrap (List.getD x.1 0 0))) 0 0), (List.getD (List.set [0] 0 (IntKind.i64.wrap r2.1)) 0 0), (List.getD (List.set [0] 0 (IntKind.i64.wrap r3.1)) 0 0), (List.getD (List.set [0] 0 (IntKind.u32.wrap r4.1)) 0 0), (List.getD [0] 0 0), (List.getD (List.take 1 (List.replicate 2 0)) 0 0), (List.getD (List.drop 1 (List.replicate 2 0)) 0 0), (List.getD [0] 0 0), (List.getD (List.set [0] 0 (IntKind.i64.wrap r27.1)) 0 0), r28.1, [], [], ()), (0:Int)))
         else
          if ((212:Int) ≠ (0:Int)) then
           some (((List.getD [0] 0 0), (List.getD [0] 0 0), (List.getD [0] 0 0), (List.getD [0] 0 0), (List.getD [0] 0 0), (List.getD (List.take 1 (List.replicate 2 0)) 0 0), (List.getD (List.drop 1 (List.replicate 2 0)) 0 0), (List.getD [0] 0 0), (List.getD [0] 0 0), [], [], [], ()), (212:Int))
          else
           some (((List.getD (List.set [0] 0 (IntKind.i64.wrap (List.getD x.1 0 0))) 0 0), (List.getD (List.set [0] 0 (IntKind.i64.wrap r2.1)) 0 0), (List.getD (List.set [0] 0 (IntKind.i64.wrap r3.1)) 0 0), (List.getD (List.set [0] 0 (IntKind.u32.wrap r4.1)) 0 0), (List.getD [0] 0 0), (List.getD (List.take 1 (List.replicate 2 0)) 0 0), (List.getD (List.drop 1 (List.replicate 2 0)) 0 0), (List.getD [0] 0 0), (List.getD (List.set [0] 0 (IntKind.i64.wrap r27.1)) 0 0), r28.1, [], [], ()), (0:Int))
        else
         if (r28.2.2.1 = (0:Int)) then
          (i3 (((List.getD (List.set [0] 0 (IntKind.i64.wrap (List.getD x.1 0 0))) 0 0), (List.getD (List.set [0] 0 (IntKind.i64.wrap r2.1)) 0 0), (List.getD (List.set [0] 0 (IntKind.i64.wrap r3.1)) 0 0), (List.getD (List.set [0] 0 (IntKind.u32.wrap r4.1)) 0 0), (List.getD [0] 0 0), (List.getD (List.take 1 (List.replicate 2 0)) 0 0), (List.getD (List.drop 1 (List.replicate 2 0)) 0 0), (List.getD [0] 0 0), (List.getD (List.set [0] 0 (IntKind.i64.wrap r27.1)) 0 0), r28.1, [], [], ()), ())).bind fun r30 => (
          if (r30 ≠ (0:Int)) then
           some (((List.getD [0] 0 0), (List.getD [0] 0 0), (List.getD [0] 0 0), (List.getD [0] 0 0), (List.getD [0] 0 0), (List.getD (List.take 1 (List.replicate 2 0)) 0 0), (List.getD (List.drop 1 (List.replicate 2 0)) 0 0), (List.getD [0] 0 0), (List.getD [0] 0 0), [], [], [], ()), r30)
          else
           some (((List.getD (List.set [0] 0 (IntKind.i64.wrap (List.getD x.1 0 0))) 0 0), (List.getD (List.set [0] 0 (IntKind.i64.wrap r2.1)) 0 0), (List.getD (List.set [0] 0 (IntKind.i64.wrap r3.1)) 0 0), (List.getD (List.set [0] 0 (IntKind.u32.wrap r4.1)) 0 0), (List.getD [0] 0 0), (List.getD (List.take 1 (List.replicate 2 0)) 0 0), (List.getD (List.drop 1 (List.replicate 2 0)) 0 0), (List.getD [0] 0 0), (List.getD (List.set [0] 0 (IntKind.i64.wrap r27.1)) 0 0), r28.1, [], [], ()), (0:Int)))
         else
          if (r28.2.2.1 ≠ (0:Int)) then
           some (((List.getD [0] 0 0), (List.getD [0] 0 0), (List.getD [0] 0 0), (List.getD [0] 0 0), (List.getD [0] 0 0), (List.getD (List.take 1 (List.replicate 2 0)) 0 0), (List.getD (List.drop 1 (List.replicate 2 0)) 0 0), (List.getD [0] 0 0), (List.getD [0] 0 0), [], [], [], ()), r28.2.2.1)
          else
           some (((List.getD (List.set [0] 0 (IntKind.i64.wrap (List.getD x.1 0 0))) 0 0), (List.getD (List.set [0] 0 (IntKind.i64.wrap r2.1)) 0 0), (List.getD (List.set [0] 0 (IntKind.i64.wrap r3.1)) 0 0), (List.getD (List.set [0] 0 (IntKind.u32.wrap r4.1)) 0 0), (List.getD [0] 0 0), (List.getD (List.take 1 (List.replicate 2 0)) 0 0), (List.getD (List.drop 1 (List.replicate 2 0)) 0 0), (List.getD [0] 0 0), (List.getD (List.set [0] 0 (IntKind.i64.wrap r27.1)) 0 0), r28.1, [], [], ()), (0:Int))
       else
        if (r28.2.2.1 = (0:Int)) then
         (i3 (((List.getD (List.set [0] 0 (IntKind.i64.wrap (List.getD x.1 0 0))) 0 0), (List.getD (List.set [0] 0 (IntKind.i64.wrap r2.1)) 0 0), (List.getD (List.set [0] 0 (IntKind.i64.wrap r3.1)) 0 0), (List.getD (List.set [0] 0 (IntKind.u32.wrap r4.1)) 0 0), (List.getD [0] 0 0), (List.getD (List.take 1 (List.replicate 2 0)) 0 0), (List.getD (List.drop 1 (List.replicate 2 0)) 0 0), (List.getD [0] 0 0), (List.getD (List.set [0] 0 (IntKind.i64.wrap r27.1)) 0 0), r28.1, [], [], ()), ())).bind fun r31 => (
         if (r31 ≠ (0:Int)) then
          some (((List.getD [0] 0 0), (List.getD [0] 0 0), (List.getD [0] 0 0), (List.getD [0] 0 0), (List.getD [0] 0 0), (List.getD (List.take 1 (List.replicate 2 0)) 0 0), (List.getD (List.drop 1 (List.replicate 2 0)) 0 0), (List.getD [0] 0 0), (List.getD [0] 0 0), [], [], [], ()), r31)
         else
          some (((List.getD (List.set [0] 0 (IntKind.i64.wrap (List.getD x.1 0 0))) 0 0), (List.getD (List.set [0] 0 (IntKind.i64.wrap r2.1)) 0 0), (List.getD (List.set [0] 0 (IntKind.i64.wrap r3.1)) 0 0), (List.getD (List.set [0] 0 (IntKind.u32.wrap r4.1)) 0 0), (List.getD [0] 0 0), (List.getD (List.take 1 (List.replicate 2 0)) 0 0), (List.getD (List.drop 1 (List.replicate 2 0)) 0 0), (List.getD [0] 0 0), (List.getD (List.set [0] 0 (IntKind.i64.wrap r27.1)) 0 0), r28.1, [], [], ()), (0:Int)))
        else
         if (r28.2.2.1 ≠ (0:Int)) then
          some (((List.getD [0] 0 0), (List.getD [0] 0 0), (List.getD [0] 0 0), (List.getD [0] 0 0), (List.getD [0] 0 0), (List.getD (List.take 1 (List.replicate 2 0)) 0 0), (List.getD (List.drop 1 (List.replicate 2 0)) 0 0), (List.getD [0] 0 0), (List.getD [0] 0 0), [], [], [], ()), r28.2.2.1)
         else
          some (((List.getD (List.set [0] 0 (IntKind.i64.wrap (List.getD x.1 0 0))) 0 0), (List.getD (List.set [0] 0 (IntKind.i64.wrap r2.1)) 0 0), (List.getD (List.set [0] 0 (IntKind.i64.wrap r3.1)) 0 0), (List.getD (List.set [0] 0 (IntKind.u32.wrap r4.1)) 0 0), (List.getD [0] 0 0), (List.getD (List.take 1 (List.replicate 2 0)) 0 0), (List.getD (List.drop 1 (List.replicate 2 0)) 0 0), (List.getD [0] 0 0), (List.getD (List.set [0] 0 (IntKind.i64.wrap r27.1)) 0 0), r28.1, [], [], ()), (0:Int))))
      else
       if ((List.getD (List.set [0] 0 (IntKind.i64.wrap (List.getD x.1 0 0))) 0 0) = (5:Int)) then
        (c9 ((r4.2.1, r4.2.2.1, ()), (4:Int), ())).bind fun r32 => (
        (c9 ((r32.2.1, r32.2.2.1, ()), (8:Int), ())).bind fun r33 => (
        (c9 ((r33.2.1, r33.2.2.1, ()), (8:Int), ())).bind fun r34 => (
        (i6 ((r34.2.1, r34.2.2.1, ()), (3309:Int), ())).bind fun r35 => (
        if (r35.2.2.1 = (0:Int)) then
         if (((List.length r35.2.1 : Nat) : Int) > (0:Int)) then
          if ((212:Int) = (0:Int)) then
           (i3 (((List.getD (List.set [0] 0 (IntKind.i64.wrap (List.getD x.1 0 0))) 0 0), (List.getD (List.set [0] 0 (IntKind.i64.wrap r2.1)) 0 0), (List.getD (List.set [0] 0 (IntKind.i64.wrap r3.1)) 0 0), (List.getD (List.set [0] 0 (IntKind.u32.wrap r4.1)) 0 0), (List.getD (List.set [0] 0 (IntKind.u32.wrap r32.1)) 0 0), (List.getD (List.take 1 (List.set (List.set (List.replicate 2 0) 0 r33.1) 1 r34.1)) 0 0), (List.getD (List.drop 1 (List.set (List.set (List.replicate 2 0) 0 r33.1) 1 r34.1)) 0 0), (List.getD [0] 0 0), (List.getD [0] 0 0), [], [], r35.1, ()), ())).bind fun r36 => (
           if (r36 ≠ (0:Int)) then
            some (((List.getD [0] 0 0), (List.getD [0] 0 0), (List.getD [0] 0 0), (List.getD [0] 0 0), (List.getD [0] 0 0), (List.getD (List.take 1 (List.replicate 2 0)) 0 0), (List.getD (List.drop 1 (List.replicate 2 0)) 0 0), (List.getD [0] 0 0), (List.getD [0] 0 0), [], [], [], ()), r36)
           else
            some (((List.getD (List.set [0] 0 (IntKind.i64.wrap (List.getD x.1 0 0))) 0 0), (List.getD (List.set [0] 0 (IntKind.i64.wrap r2.1)) 0 0), (List.getD (List.set [0] 0 (IntKind.i64.wrap r3.1)) 0 0), (List.getD (List.set [0] 0 (IntKind.u32.wrap r4.1)) 0 0), (List.getD (List.set [0] 0 (IntKind.u32.wrap r32.1)) 0 0), (List.getD (List.take 1 (List.set (List.set (List.replicate 2 0) 0 r33.1) 1 r34.1)) 0 0), (List.getD (List.drop 1 (List.set (List.set (List.replicate 2 0) 0 r33.1) 1 r34.1)) 0 0), (List.getD [0] 0 0), (List.getD [0] 0 0), [], [], r35.1, ()), (0:Int)))
          else
           if ((212:Int) ≠ (0:Int)) then
            some (((List.getD [0] 0 0), (List.getD [0] 0 0), (List.getD [0] 0 0), (List.getD [0] 0 0), (List.getD [0] 0 0), (List.getD (List.take 1 (List.replicate 2 0)) 0 0), (List.getD (List.drop 1 (List.replicate 2 0)) 0 0), (List.getD [0] 0 0), (List.getD [0] 0 0), [], [], [], ()), (212:Int))
           else
            some (((List.getD (List.set [0] 0 (IntKind.i64.wrap (List.getD x.1 0 0))) 0 0), (List.getD (List.set [0] 0 (IntKind.i64.wrap r2.1)) 0 0), (List.getD (List.set [0] 0 (IntKind.i64.wrap r3.1)) 0 0), (List.getD (List.set [0] 0 (IntKind.u32.wrap r4.1)) 0 0), (List.getD (List.set [0] 0 (IntKind.u32.wrap r32.1)) 0 0), (List.getD (List.take 1 (List.set (List.set (List.replicate 2 0) 0 r33.1) 1 r34.1)) 0 0), (List.getD (List.drop 1 (List.set (List.set (List.replicate 2 0) 0 r33.1) 1 r34.1)) 0 0), (List.getD [0] 0 0), (List.getD [0] 0 0), [], [], r35.1, ()), (0:Int))
         else
          if (r35.2.2.1 = (0:Int)) then
           (i3 (((List.getD (List.set [0] 0 (IntKind.i64.wrap (List.getD x.1 0 0))) 0 0), (List.getD (List.set [0] 0 (IntKind.i64.wrap r2.1)) 0 0), (List.getD (List.set [0] 0 (IntKind.i64.wrap r3.1)) 0 0), (List.getD (List.set [0] 0 (IntKind.u32.wrap r4.1)) 0 0), (List.getD (List.set [0] 0 (IntKind.u32.wrap r32.1)) 0 0), (List.getD (List.take 1 (List.set (List.set (List.replicate 2 0) 0 r33.1) 1 r34.1)) 0 0), (List.getD (List.drop 1 (List.set (List.set (List.replicate 2 0) 0 r33.1) 1 r34.1)) 0 0), (List.getD [0] 0 0), (List.getD [0] 0 0), [], [], r35.1, ()), ())).bind fun r37 => (
           if (r37 ≠ (0:Int)) then
            some (((List.getD [0] 0 0), (List.getD [0] 0 0), (List.getD [0] 0 0), (List.getD [0] 0 0), (List.getD [0] 0 0), (List.getD (List.take 1 (List.replicate 2 0)) 0 0), (List.getD (List.drop 1 (List.replicate 2 0)) 0 0), (List.getD [0] 0 0), (List.getD [0] 0 0), [], [], [], ()), r37)
           else
            some (((List.getD (List.set [0] 0 (IntKind.i64.wrap (List.getD x.1 0 0))) 0 0), (List.getD (List.set [0] 0 (IntKind.i64.wrap r2.1)) 0 0), (List.getD (List.set [0] 0 (IntKind.i64.wrap r3.1)) 0 0), (List.getD (List.set [0] 0 (IntKind.u32.wrap r4.1)) 0 0), (List.getD (List.set [0] 0 (IntKind.u32.wrap r32.1)) 0 0), (List.getD (List.take 1 (List.set (List.set (List.replicate 2 0) 0 r33.1) 1 r34.1)) 0 0), (List.getD (List.drop 1 (List.set (List.set (List.replicate 2 0) 0 r33.1) 1 r34.1)) 0 0), (List.getD [0] 0 0), (List.getD [0] 0 0), [], [], r35.1, ()), (0:Int)))
          else
           if (r35.2.2.1 ≠ (0:Int)) then
            some (((List.getD [0] 0 0), (List.getD [0] 0 0), (List.getD [0] 0 0), (List.getD [0] 0 0), (List.getD [0] 0 0), (List.getD (List.take 1 (List.replicate 2 0)) 0 0), (List.getD (List.drop 1 (List.replicate 2 0)) 0 0), (List.getD [0] 0 0), (List.getD [0] 0 0), [], [], [], ()), r35.2.2.1)
           else
            some (((List.getD (List.set [0] 0 (IntKind.i64.wrap (List.getD x.1 0 0))) 0 0), (List.getD (List.set [0] 0 (IntKind.i64.wrap r2.1)) 0 0), (List.getD (List.set [0] 0 (IntKind.i64.wrap r3.1)) 0 0), (List.getD (List.set [0] 0 (IntKind.u32.wrap r4.1)) 0 0), (List.getD (List.set [0] 0 (IntKind.u32.wrap r32.1)) 0 0), (List.getD (List.take 1 (List.set (List.set (List.replicate 2 0) 0 r33.1) 1 r34.1)) 0 0), (List.getD (List.drop 1 (List.set (List.set (List.replicate 2 0) 0 r33.1) 1 r34.1)) 0 0), (List.getD [0] 0 0), (List.getD [0] 0 0), [], [], r35.1, ()), (0:Int))
        else
         if (r35.2.2.1 = (0:Int)) then
          (i3 (((List.getD (List.set [0] 0 (IntKind.i64.wrap (List.getD x.1 0 0))) 0 0), (List.getD (List.set [0] 0 (IntKind.i64.wrap r2.1)) 0 0), (List.getD (List.set [0] 0 (IntKind.i64.wrap r3.1)) 0 0), (List.getD (List.set [0] 0 (IntKind.u32.wrap r4.1)) 0 0), (List.getD (List.set [0] 0 (IntKind.u32.wrap r32.1)) 0 0), (List.getD (List.take 1 (List.set (List.set (List.replicate 2 0) 0 r33.1) 1 r34.1)) 0 0), (List.getD (List.drop 1 (List.set (List.set (List.replicate 2 0) 0 r33.1) 1 r34.1)) 0 0), (List.getD [0] 0 0), (List.getD [0] 0 0), [], [], r35.1, ()), ())).bind fun r38 => (
          if (r38 ≠ (0:Int)) then
           some (((List.getD [0] 0 0), (List.getD [0] 0 0), (List.getD [0] 0 0), (List.getD [0] 0 0), (List.getD [0] 0 0), (List.getD (List.take 1 (List.replicate 2 0)) 0 0), (List.getD (List.drop 1 (List.replicate 2 0)) 0 0), (List.getD [0] 0 0), (List.getD [0] 0 0), [], [], [], ()), r38)
          else
           some (((List.getD (List.set [0] 0 (IntKind.i64.wrap (List.getD x.1 0 0))) 0 0), (List.getD (List.set [0] 0 (IntKind.i64.wrap r2.1)) 0 0), (List.getD (List.set [0] 0 (IntKind.i64.wrap r3.1)) 0 0), (List.getD (List.set [0] 0 (IntKind.u32.wrap r4.1)) 0 0), (List.getD (List.set [0] 0 (IntKind.u32.wrap r32.1)) 0 0), (List.getD (List.take 1 (List.set (List.set (List.replicate 2 0) 0 r33.1) 1 r34.1)) 0 0), (List.getD (List.drop 1 (List.set (List.set (List.replicate 2 0) 0 r33.1) 1 r34.1)) 0 0), (List.getD [0] 0 0), (List.getD [0] 0 0), [], [], r35.1, ()), (0:Int)))
         else
          if (r35.2.2.1 ≠ (0:Int)) then
           some (((List.getD [0] 0 0), (List.getD [0] 0 0), (List.getD [0] 0 0), (List.getD [0] 0 0), (List.getD [0] 0 0), (List.getD (List.take 1 (List.replicate 2 0)) 0 0), (List.getD (List.drop 1 (List.replicate 2 0)) 0 0), (List.getD [0] 0 0), (List.getD [0] 0 0), [], [], [], ()), r35.2.2.1)
          else
           some (((List.getD (List.set [0] 0 (IntKind.i64.wrap (List.getD x.1 0 0))) 0 0), (List.getD (List.set [0] 0 (IntKind.i64.wrap r2.1)) 0 0), (List.getD (List.set [0] 0 (IntKind.i64.wrap r3.1)) 0 0), (List.getD (List.set [0] 0 (IntKind.u32.wrap r4.1)) 0 0), (List.getD (List.set [0] 0 (IntKind.u32.wrap r32.1)) 0 0), (List.getD (List.take 1 (List.set (List.set (List.replicate 2 0) 0 r33.1) 1 r34.1)) 0 0), (List.getD (List.drop 1 (List.set (List.set (List.replicate 2 0) 0 r33.1) 1 r34.1)) 0 0), (List.getD [0] 0 0), (List.getD [0] 0 0), [], [], r35.1, ()), (0:Int))))))
       else
        if ((List.getD (List.set [0] 0 (IntKind.i64.wrap (List.getD x.1 0 0))) 0 0) = (6:Int)) then
         (c9 ((r4.2.1, r4.2.2.1, ()), (4:Int), ())).bind fun r39 => (
         (c9 ((r39.2.1, r39.2.2.1, ()), (8:Int), ())).bind fun r40 => (
         (c9 ((r40.2.1, r40.2.2.1, ()), (8:Int), ())).bind fun r41 => (
         (i6 ((r41.2.1, r41.2.2.1, ()), (3309:Int), ())).bind fun r42 => (
         if (r42.2.2.1 = (0:Int)) then
          if (((List.length r42.2.1 : Nat) : Int) > (0:Int)) then
           if ((212:Int) = (0:Int)) then
            (i3 (((List.getD (List.set [0] 0 (IntKind.i64.wrap (List.getD x.1 0 0))) 0 0), (List.getD (List.set [0] 0 (IntKind.i64.wrap r2.1)) 0 0), (List.getD (List.set [0] 0 (IntKind.i64.wrap r3.1)) 0 0), (List.getD (List.set [0] 0 (IntKind.u32.wrap r4.1)) 0 0), (List.getD (List.set [0] 0 (IntKind.u32.wrap r39.1)) 0 0), (List.getD (List.take 1 (List.set (List.set (List.replicate 2 0) 0 r40.1) 1 r41.1)) 0 0), (List.getD (List.drop 1 (List.set (List.set (List.replicate 2 0) 0 r40.1) 1 r41.1)) 0 0), (List.getD [0] 0 0), (List.getD [0] 0 0), [], [], r42.1, ()), ())).bind fun r43 => (
            if (r43 ≠ (0:Int)) then
             some (((List.getD [0] 0 0), (List.getD [0] 0 0), (List.getD [0] 0 0), (List.getD [0] 0 0), (List.getD [0] 0 0), (List.getD (List.take 1 (List.replicate 2 0)) 0 0), (List.getD (List.drop 1 (List.replicate 2 0)) 0 0), (List.getD [0] 0 0), (List.getD [0] 0 0), [], [], [], ()), r43)
            else
             some (((List.getD (List.set [0] 0 (IntKind.i64.wrap (List.getD x.1 0 0))) 0 0), (List.getD (List.set [0] 0 (IntKind.i64.wrap r2.1)) 0 0), (List.getD (List.set [0] 0 (IntKind.i64.wrap r3.1)) 0 0), (List.getD (List.set [0] 0 (IntKind.u32.wrap r4.1)) 0 0), (List.getD (List.set [0] 0 (IntKind.u32.wrap r39.1)) 0 0), (List.getD (List.take 1 (List.set (List.set (List.replicate 2 0) 0 r40.1) 1 r41.1)) 0 0), (List.getD (List.drop 1 (List.set (List.set (List.replicate 2 0) 0 r40.1) 1 r41.1)) 0 0), (List.getD [0] 0 0), (List.getD [0] 0 0), [], [], r42.1, ()), (0:Int)))
           else
            if ((212:Int) ≠ (0:Int)) then
             some (((List.getD [0] 0 0), (List.getD [0] 0 0), (List.getD [0] 0 0), (List.getD [0] 0 0), (List.getD [0] 0 0), (List.getD (List.take 1 (List.replicate 2 0)) 0 0), (List.getD (List.drop 1 (List.replicate 2 0)) 0 0), (List.getD [0] 0 0), (List.getD [0] 0 0), [], [], [], ()), (212:Int))
            else
             some (((List.getD (List.set [0] 0 (IntKind.i64.wrap (List.getD x.1 0 0))) 0 0), (List.getD (List.set [0] 0 (IntKind.i64.wrap r2.1)) 0 0), (List.getD (List.set [0] 0 (IntKind.i64.wrap r3.1)) 0 0), (List.getD (List.set [0] 0 (IntKind.u32.wrap r4.1)) 0 0), (List.getD (List.set [0] 0 (IntKind.u32.wrap r39.1)) 0 0), (List.getD (List.take 1 (List.set (List.set (List.replicate 2 0) 0 r40.1) 1 r41.1)) 0 0), (List.getD (List.drop 1 (List.set (List.set (List.replicate 2 0) 0 r40.1) 1 r41.1)) 0 0), (List.getD [0] 0 0), (List.getD [0] 0 0), [], [], r42.1, ()), (0:Int))
          else
           if (r42.2.2.1 = (0:Int)) then
            (i3 (((List.getD (List.set [0] 0 (IntKind.i64.wrap (List.getD x.1 0 0))) 0 0), (List.getD (List.set [0] 0 (IntKind.i64.wrap r2.1)) 0 0), (List.getD (List.set [0] 0 (IntKind.i64.wrap r3.1)) 0 0), (List.getD (List.set [0] 0 (IntKind.u32.wrap r4.1)) 0 0), (List.getD (List.set [0] 0 (IntKind.u32.wrap r39.1)) 0 0), (List.getD (List.take 1 (List.set (List.set (List.replicate 2 0) 0 r40.1) 1 r41.1)) 0 0), (List.getD (List.drop 1 (List.set (List.set (List.replicate 2 0) 0 r40.1) 1 r41.1)) 0 0), (List.getD [0] 0 0), (List.getD [0] 0 0), [], [], r42.1, ()), ())).bind fun r44 => (
            if (r44 ≠ (0:Int)) then
             some (((List.getD [0] 0 0), (List.getD [0] 0 0), (List.getD [0] 0 0), (List.getD [0] 0 0), (List.getD [0] 0 0), (List.getD (List.take 1 (List.replicate 2 0)) 0 0), (List.getD (List.drop 1 (List.replicate 2 0)) 0 0), (List.getD [0] 0 0), (List.getD [0] 0 0), [], [], [], ()), r44)
            else
             some (((List.getD (List.set [0] 0 (IntKind.i64.wrap (List.getD x.1 0 0))) 0 0), (List.getD (List.set [0] 0 (IntKind.i64.wrap r2.1)) 0 0), (List.getD (List.set [0] 0 (IntKind.i64.wrap r3.1)) 0 0), (List.getD (List.set [0] 0 (IntKind.u32.wrap r4.1)) 0 0), (List.getD (List.set [0] 0 (IntKind.u32.wrap r39.1)) 0 0), (List.getD (List.take 1 (List.set (List.set (List.replicate 2 0) 0 r40.1) 1 r41.1)) 0 0), (List.getD (List.drop 1 (List.set (List.set (List.replicate 2 0) 0 r40.1) 1 r41.1)) 0 0), (List.getD [0] 0 0), (List.getD [0] 0 0), [], [], r42.1, ()), (0:Int)))
           else
            if (r42.2.2.1 ≠ (0:Int)) then
             some (((List.getD [0] 0 0), (List.getD [0] 0 0), (List.getD [0] 0 0), (List.getD [0] 0 0), (List.getD [0] 0 0), (List.getD (List.take 1 (List.replicate 2 0)) 0 0), (List.getD (List.drop 1 (List.replicate 2 0)) 0 0), (List.getD [0] 0 0), (List.getD [0] 0 0), [], [], [], ()), r42.2.2.1)
            else
             some (((List.getD (List.set [0] 0 (IntKind.i64.wrap (List.getD x.1 0 0))) 0 0), (List.getD (List.set [0] 0 (IntKind.i64.wrap r2.1)) 0 0), (List.getD (List.set [0] 0 (IntKind.i64.wrap r3.1)) 0 0), (List.getD (List.set [0] 0 (IntKind.u32.wrap r4.1)) 0 0), (List.getD (List.set [0] 0 (IntKind.u32.wrap r39.1)) 0 0), (List.getD (List.take 1 (List.set (List.set (List.replicate 2 0) 0 r40.1) 1 r41.1)) 0 0), (List.getD (List.drop 1 (List.set (List.set (List.replicate 2 0) 0 r40.1) 1 r41.1)) 0 0), (List.getD [0] 0 0), (List.getD [0] 0 0), [], [], r42.1, ()), (0:Int))
         else
          if (r42.2.2.1 = (0:Int)) then
           (i3 (((List.getD (List.set [0] 0 (IntKind.i64.wrap (List.getD x.1 0 0))) 0 0), (List.getD (List.set [0] 0 (IntKind.i64.wrap r2.1)) 0 0), (List.getD (List.set [0] 0 (IntKind.i64.wrap r3.1)) 0 0), (List.getD (List.set [0] 0 (IntKind.u32.wrap r4.1)) 0 0), (List.getD (List.set [0] 0 (IntKind.u32.wrap r39.1)) 0 0), (List.getD (List.take 1 (List.set (List.set (List.replicate 2 0) 0 r40.1) 1 r41.1)) 0 0), (List.getD (List.drop 1 (List.set (List.set (List.replicate 2 0) 0 r40.1) 1 r41.1)) 0 0), (List.getD [0] 0 0), (List.getD [0] 0 0), [], [], r42.1, ()), ())).bind fun r45 => (
           if (r45 ≠ (0:Int)) then
            some (((List.getD [0] 0 0), (List.getD [0] 0 0), (List.getD [0] 0 0), (List.getD [0] 0 0), (List.getD [0] 0 0), (List.getD (List.take 1 (List.replicate 2 0)) 0 0), (List.getD (List.drop 1 (List.replicate 2 0)) 0 0), (List.getD [0] 0 0), (List.getD [0] 0 0), [], [], [], ()), r45)
           else
            some (((List.getD (List.set [0] 0 (IntKind.i64.wrap (List.getD x.1 0 0))) 0 0), (List.getD (List.set [0] 0 (IntKind.i64.wrap r2.1)) 0 0), (List.getD (List.set [0] 0 (IntKind.i64.wrap r3.1)) 0 0), (List.getD (List.set [0] 0 (IntKind.u32.wrap r4.1)) 0 0), (List.getD (List.set [0] 0 (IntKind.u32.wrap r39.1)) 0 0), (List.getD (List.take 1 (List.set (List.set (List.replicate 2 0) 0 r40.1) 1 r41.1)) 0 0), (List.getD (List.drop 1 (List.set (List.set (List.replicate 2 0) 0 r40.1) 1 r41.1)) 0 0), (List.getD [0] 0 0), (List.getD [0] 0 0), [], [], r42.1, ()), (0:Int)))
          else
           if (r42.2.2.1 ≠ (0:Int)) then
            some (((List.getD [0] 0 0), (List.getD [0] 0 0), (List.getD [0] 0 0), (List.getD [0] 0 0), (List.getD [0] 0 0), (List.getD (List.take 1 (List.replicate 2 0)) 0 0), (List.getD (List.drop 1 (List.replicate 2 0)) 0 0), (List.getD [0] 0 0), (List.getD [0] 0 0), [], [], [], ()), r42.2.2.1)
           else
            some (((List.getD (List.set [0] 0 (IntKind.i64.wrap (List.getD x.1 0 0))) 0 0), (List.getD (List.set [0] 0 (IntKind.i64.wrap r2.1)) 0 0), (List.getD (List.set [0] 0 (IntKind.i64.wrap r3.1)) 0 0), (List.getD (List.set [0] 0 (IntKind.u32.wrap r4.1)) 0 0), (List.getD (List.set [0] 0 (IntKind.u32.wrap r39.1)) 0 0), (List.getD (List.take 1 (List.set (List.set (List.replicate 2 0) 0 r40.1) 1 r41.1)) 0 0), (List.getD (List.drop 1 (List.set (List.set (List.replicate 2 0) 0 r40.1) 1 r41.1)) 0 0), (List.getD [0] 0 0), (List.getD [0] 0 0), [], [], r42.1, ()), (0:Int))))))
        else
         if (r4.2.2.1 = (0:Int)) then
          if (((List.length r4.2.1 : Nat) : Int) > (0:Int)) then
           if ((212:Int) = (0:Int)) then
            (i3 (((List.getD (List.set [0] 0 (IntKind.i64.wrap (List.getD x.1 0 0))) 0 0), (List.getD (List.set [0] 0 (IntKind.i64.wrap r2.1)) 0 0), (List.getD (List.set [0] 0 (IntKind.i64.wrap r3.1)) 0 0), (List.getD (List.set [0] 0 (IntKind.u32.wrap r4.1)) 0 0), (List.getD [0] 0 0), (List.getD (List.take 1 (List.replicate 2 0)) 0 0), (List.getD (List.drop 1 (List.replicate 2 0)) 0 0), (List.getD [0] 0 0), (List.getD [0] 0 0), [], [], [], ()), ())).bind fun r46 => (
            if (r46 ≠ (0:Int)) then
             some (((List.getD [0] 0 0), (List.getD [0] 0 0), (List.getD [0] 0 0), (List.getD [0] 0 0), (List.getD [0] 0 0), (List.getD (List.take 1 (List.replicate 2 0)) 0 0), (List.getD (List.drop 1 (List.replicate 2 0)) 0 0), (List.getD [0] 0 0), (List.getD [0] 0 0), [], [], [], ()), r46)
            else
             some (((List.getD (List.set [0] 0 (IntKind.i64.wrap (List.getD x.1 0 0))) 0 0), (List.getD (List.set [0] 0 (IntKind.i64.wrap r2.1)) 0 0), (List.getD (List.set [0] 0 (IntKind.i64.wrap r3.1)) 0 0), (List.getD (List.set [0] 0 (IntKind.u32.wrap r4.1)) 0 0), (List.getD [0] 0 0), (List.getD (List.take 1 (List.replicate 2 0)) 0 0), (List.getD (List.drop 1 (List.replicate 2 0)) 0 0), (List.getD [0] 0 0), (List.getD [0] 0 0), [], [], [], ()), (0:Int)))
           else
            if ((212:Int) ≠ (0:Int)) then
             some (((List.getD [0] 0 0), (List.getD [0] 0 0), (List.getD [0] 0 0), (List.getD [0] 0 0), (List.getD [0] 0 0), (List.getD (List.take 1 (List.replicate 2 0)) 0 0), (List.getD (List.drop 1 (List.replicate 2 0)) 0 0), (List.getD [0] 0 0), (List.getD [0] 0 0), [], [], [], ()), (212:Int))
            else
             some (((List.getD (List.set [0] 0 (IntKind.i64.wrap (List.getD x.1 0 0))) 0 0), (List.getD (List.set [0] 0 (IntKind.i64.wrap r2.1)) 0 0), (List.getD (List.set [0] 0 (IntKind.i64.wrap r3.1)) 0 0), (List.getD (List.set [0] 0 (IntKind.u32.wrap r4.1)) 0 0), (List.getD [0] 0 0), (List.getD (List.take 1 (List.replicate 2 0)) 0 0), (List.getD (List.drop 1 (List.replicate 2 0)) 0 0), (List.getD [0] 0 0), (List.getD [0] 0 0), [], [], [], ()), (0:Int))
          else
           if (r4.2.2.1 = (0:Int)) then
            (i3 (((List.getD (List.set [0] 0 (IntKind.i64.wrap (List.getD x.1 0 0))) 0 0), (List.getD (List.set [0] 0 (IntKind.i64.wrap r2.1)) 0 0), (List.getD (List.set [0] 0 (IntKind.i64.wrap r3.1)) 0 0), (List.getD (List.set [0] 0 (IntKind.u32.wrap r4.1)) 0 0), (List.getD [0] 0 0), (List.getD (List.take 1 (List.replicate 2 0)) 0 0), (List.getD (List.drop 1 (List.replicate 2 0)) 0 0), (List.getD [0] 0 0), (List.getD [0] 0 0), [], [], [], ()), ())).bind fun r47 => (
            if (r47 ≠ (0:Int)) then
             some (((List.getD [0] 0 0), (List.getD [0] 0 0), (List.getD [0] 0 0), (List.getD [0] 0 0), (List.getD [0] 0 0), (List.getD (List.take 1 (List.replicate 2 0)) 0 0), (List.getD (List.drop 1 (List.replicate 2 0)) 0 0), (List.getD [0] 0 0), (List.getD [0] 0 0), [], [], [], ()), r47)
            else
             some (((List.getD (List.set [0] 0 (IntKind.i64.wrap (List.getD x.1 0 0))) 0 0), (List.getD (List.set [0] 0 (IntKind.i64.wrap r2.1)) 0 0), (List.getD (List.set [0] 0 (IntKind.i64.wrap r3.1)) 0 0), (List.getD (List.set [0] 0 (IntKind.u32.wrap r4.1)) 0 0), (List.getD [0] 0 0), (List.getD (List.take 1 (List.replicate 2 0)) 0 0), (List.getD (List.drop 1 (List.replicate 2 0)) 0 0), (List.getD [0] 0 0), (List.getD [0] 0 0), [], [], [], ()), (0:Int)))
           else
            if (r4.2.2.1 ≠ (0:Int)) then
             some (((List.getD [0] 0 0), (List.getD [0] 0 0), (List.getD [0] 0 0), (List.getD [0] 0 0), (List.getD [0] 0 0), (List.getD (List.take 1 (List.replicate 2 0)) 0 0), (List.getD (List.drop 1 (List.replicate 2 0)) 0 0), (List.getD [0] 0 0), (List.getD [0] 0 0), [], [], [], ()), r4.2.2.1)
            else
             some (((List.getD (List.set [0] 0 (IntKind.i64.wrap (List.getD x.1 0 0))) 0 0), (List.getD (List.set [0] 0 (IntKind.i64.wrap r2.1)) 0 0), (List.getD (List.set [0] 0 (IntKind.i64.wrap r3.1)) 0 0), (List.getD (List.set [0] 0 (IntKind.u32.wrap r4.1)) 0 0), (List.getD [0] 0 0), (List.getD (List.take 1 (List.replicate 2 0)) 0 0), (List.getD (List.drop 1 (List.replicate 2 0)) 0 0), (List.getD [0] 0 0), (List.getD [0] 0 0), [], [], [], ()), (0:Int))
         else
          if (r4.2.2.1 = (0:Int)) then
           (i3 (((List.getD (List.set [0] 0 (IntKind.i64.wrap (List.getD x.1 0 0))) 0 0), (List.getD (List.set [0] 0 (IntKind.i64.wrap r2.1)) 0 0), (List.getD (List.set [0] 0 (IntKind.i64.wrap r3.1)) 0 0), (List.getD (List.set [0] 0 (IntKind.u32.wrap r4.1)) 0 0), (List.getD [0] 0 0), (List.getD (List.take 1 (List.replicate 2 0)) 0 0), (List.getD (List.drop 1 (List.replicate 2 0)) 0 0), (List.getD [0] 0 0), (List.getD [0] 0 0), [], [], [], ()), ())).bind fun r48 => (
           if (r48 ≠ (0:Int)) then
            some (((List.getD [0] 0 0), (List.getD [0] 0 0), (List.getD [0] 0 0), (List.getD [0] 0 0), (List.getD [0] 0 0), (List.getD (List.take 1 (List.replicate 2 0)) 0 0), (List.getD (List.drop 1 (List.replicate 2 0)) 0 0), (List.getD [0] 0 0), (List.getD [0] 0 0), [], [], [], ()), r48)
           else
            some (((List.getD (List.set [0] 0 (IntKind.i64.wrap (List.getD x.1 0 0))) 0 0), (List.getD (List.set [0] 0 (IntKind.i64.wrap r2.1)) 0 0), (List.getD (List.set [0] 0 (IntKind.i64.wrap r3.1)) 0 0), (List.getD (List.set [0] 0 (IntKind.u32.wrap r4.1)) 0 0), (List.getD [0] 0 0), (List.getD (List.take 1 (List.replicate 2 0)) 0 0), (List.getD (List.drop 1 (List.replicate 2 0)) 0 0), (List.getD [0] 0 0), (List.getD [0] 0 0), [], [], [], ()), (0:Int)))
          else
           if (r4.2.2.1 ≠ (0:Int)) then
            some (((List.getD [0] 0 0), (List.getD [0] 0 0), (List.getD [0] 0 0), (List.getD [0] 0 0), (List.getD [0] 0 0), (List.getD (List.take 1 (List.replicate 2 0)) 0 0), (List.getD (List.drop 1 (List.replicate 2 0)) 0 0), (List.getD [0] 0 0), (List.getD [0] 0 0), [], [], [], ()), r4.2.2.1)
           else
            some (((List.getD (List.set [0] 0 (IntKind.i64.wrap (List.getD x.1 0 0))) 0 0), (List.getD (List.set [0] 0 (IntKind.i64.wrap r2.1)) 0 0), (List.getD (List.set [0] 0 (IntKind.i64.wrap r3.1)) 0 0), (List.getD (List.set [0] 0 (IntKind.u32.wrap r4.1)) 0 0), (List.getD [0] 0 0), (List.getD (List.take 1 (List.replicate 2 0)) 0 0), (List.getD (List.drop 1 (List.replicate 2 0)) 0 0), (List.getD [0] 0 0), (List.getD [0] 0 0), [], [], [], ()), (0:Int)))))) else none)) else none) else none
theorem a9v (e0 : i0 Try.prog 15 O2) (e1 : i0 Try.prog 59 u9) (e2 : i0 Try.prog 60 I2) (e3 : i0 Try.prog 26 a1G) : p_ref21_Get_E.Ok Try.prog := AE.ofI_ok (all_cons X9 (all_cons Y0 (all_cons a9X (all_cons a2k (all_cons I7 (all_cons a00 (all_cons v6 (all_cons N5 (all_cons a49 (all_cons b5d c6)))))))))) (all_cons ⟨e0, a05⟩ (all_cons ⟨e1, F2⟩ (all_cons ⟨e2, a06⟩ (all_cons ⟨e3, a5l⟩ c6)))) c6 (all_cons ⟨a4n, a2q⟩ c6) c6
theorem b0x (hE : p_ref21_Get_E.Ok Try.prog) {g : Ds G9 → Option (Rs H0)} (hg : ∀ x r, g x = some r → ∃ N, X0 N x = some r) : i0 Try.prog 33 ⟨G9, H0, g⟩ :=
 p8 (E := p_ref21_Get_E) (H := b1V) (L := fun N => LT.nil) (c := b1W) (ks := G9) (rs := H0) (F := X0) hE mix Try.func33 (by kernel_rfl) (fun N => OkAll.nil) (fun _ _ => by kernel_rfl) hg
end Go.Ax.TryP
set_option linter.unusedVariables false
namespace Go.Ax.TryP
open Go.Proofs
theorem b18 : ∀ x r, d7 x = some r → ∃ N, S2 N x = some r := by
 refine j9 (ks := B2) (rs := B3) fun x hw hq => ⟨10, ?_⟩
 obtain ⟨(b : List Int), u⟩ := x
 obtain ⟨_, hb⟩ : b.length ≤ maxLen ∧ bytes b := Q2.1 hw.1
 obtain ⟨h1, h2⟩ : 1 ≤ b.length ∧ b.length ≤ 8 := hq
 unfold S2
 dsimp only
 rw [if_neg (by omega), if_neg (by omega)]
 refine (K5 (F := y6 10) (s := fun i => (a3Q (b.take i), b.length, (b.length : Int), (i : Int), b.length, b, ())) (y := (a3Q b, ())) b.length rfl ?_ ?_ 10 (by omega)).trans ?_
 ·intro i hi kn
  have hz := a6m hb i
  have hx := b02 hb hi h2
  unfold y6
  dsimp only
  rw [if_pos (by omega), if_pos (by omega), if_pos (by omega), Int.toNat_natCast, if_pos (by omega), E3 hz.1 (by omega), c1E hx hz, f7 (by omega) (by omega), a9V hi, a83]
  rfl
 ·intro kn
  unfold y6
  dsimp only
  rw [if_neg (by omega), List.take_length]
 ·rfl
theorem b8N {b : List Int} (hb : bytes b) (h : 1 ≤ b.length ∧ b.length ≤ 8) : d7 (b, ()) = some (a3Q b, 0) := by
 have hM := b7R
 exact j6 (ks := B2) (rs := B3) (x := (b, ())) ⟨(Q2 (b := b)).2 ⟨by omega, hb⟩, trivial⟩ h
theorem b0G : ∀ x r, N6 x = some r → ∃ N, O0 N x = some r := by
 refine j9 (ks := z7) (rs := M9) fun x hw hq => ⟨10, ?_⟩
 obtain ⟨(b : List Int), u⟩ := x
 obtain ⟨_, hb⟩ : b.length ≤ maxLen ∧ bytes b := Q2.1 hw.1
 have h2 : b.length ≤ 8 := hq
 unfold O0
 dsimp only
 refine (K5 (F := w8 10) (s := fun i => (a3Q (b.take i), b.length, (b.length : Int), (i : Int), b.length, b, ())) (y := (a3Q b, ())) b.length rfl ?_ ?_ 10 (by omega)).trans ?_
 ·intro i hi kn
  have hz := a6m hb i
  have hx := b02 hb hi h2
  unfold w8
  dsimp only
  rw [if_pos (by omega), if_pos (by omega), if_pos (by omega), Int.toNat_natCast, if_pos (by omega), E3 hz.1 (by omega), E3 (x := a3Q (b.take i) * 256) (by omega) (by omega), E3 (by omega) (by omega), f7 (by omega) (by omega), a9V hi, a83]
  rfl
 ·intro kn
  unfold w8
  dsimp only
  rw [if_neg (by omega), List.take_length]
 ·rfl
theorem b7e {b : List Int} (hb : bytes b) (h : b.length ≤ 8) : N6 (b, ()) = some (a3Q b) := by
 have hM := b7R
 exact j6 (ks := z7) (rs := M9) (x := (b, ())) ⟨(Q2 (b := b)).2 ⟨by omega, hb⟩, trivial⟩ h
theorem c0O {s : Rd} (h : Kd.wf (.io rdL) s) : s.1.length ≤ maxLen ∧ bytes s.1 := by
 obtain ⟨⟨h1, h2⟩, _⟩ := h
 exact ⟨h1, fun z hz => a5x.1 (h2 z hz)⟩
def b2b (s : Rd) : Prop := s.1.length ≤ 1000000 ∧ bytes s.1 ∧ 0 ≤ s.2.1 ∧ s.2.1 ≤ 300
theorem c0D {s : Rd} (h : b2b s) : Kd.wf (.io rdL) s := by
 have hM := b7R
 obtain ⟨h1, h2, h3, h4⟩ := h
 exact ⟨⟨by omega, fun z hz => a5x.2 (h2 z hz)⟩, (s0 (n := s.2.1)).2 (by omega), trivial⟩
theorem b3J (n : Nat) : bytes (List.replicate n 0) := fun z hz => by rw [List.eq_of_mem_replicate hz]; omega
theorem b5U (r : List Int) : [r].flatten = r := by simp
theorem c0v {r : List Int} (h : r.length ≤ 1000000 ∧ bytes r) : b1a [r] := by
 have hM : 1000000 ≤ maxLen := by decide
 exact ⟨by simp only [List.length_cons, List.length_nil]; omega, fun zs hz => by rw [List.mem_singleton.1 hz]; exact ⟨by omega, h.2⟩⟩
theorem b7I {r : List Int} (h : r.length ≤ 1000000 ∧ bytes r) : C7 ([r], ()) = some r := by
 rw [b5r ⟨by simp, by rw [b5U]; exact h.1⟩ (c0v h), b5U]
theorem a51 : ∀ x r, q9 x = some r → ∃ N, y7 N x = some r := by
 refine j9 (ks := v4) (rs := v5) fun x hw hq => ⟨0, ?_⟩
 obtain ⟨(s : Rd), (n : Int), u⟩ := x
 obtain ⟨_, hb⟩ := c0O hw.1
 obtain ⟨h1, h2, h3, _⟩ : 0 ≤ n ∧ n ≤ 100000 ∧ (s.1.length ≤ 1000000 ∧ 0 ≤ s.2.1 ∧ s.2.1 ≤ 300) := hq
 obtain ⟨n, rfl⟩ : ∃ m : Nat, n = m := ⟨n.toNat, by omega⟩
 show y7 0 (s, (n : Int), u) = some (a90 s ((n : Int).toNat))
 rw [Int.toNat_natCast]
 unfold y7 a90
 dsimp only
 by_cases e0 : s.2.1 = 0
 ·rw [if_neg (by simp [e0]), if_neg (show ¬ s.2.1 ≠ 0 by simp [e0])]
  by_cases hl : s.1.length < n
  ·rw [if_pos (by omega), if_pos e0, if_pos (by omega), if_pos rfl, if_pos (by omega), Int.toNat_natCast, if_pos hl]
  ·rw [if_neg (by omega), if_pos (by omega), if_pos (by omega), Int.toNat_natCast, List.drop_zero, Nat.sub_zero, b7I ⟨by rw [List.length_take]; omega, a1E hb _⟩, Option.bind_some,
    if_pos (by omega), if_pos (by omega), List.take_of_length_le (l := s.1.drop n) (by rw [List.length_drop]; omega), if_neg hl, e0]
 ·rw [if_pos e0, if_neg e0, if_pos (by omega), if_pos rfl, if_pos (by omega), Int.toNat_natCast, if_pos e0]
theorem b9N {s : Rd} (h : b2b s) {n : Nat} (hn : n ≤ 100000) : q9 (s, (n : Int), ()) = some (a90 s n) := by
 have := j6 (ks := v4) (rs := v5) (x := (s, (n : Int), ())) (Q := fun x => 0 ≤ x.2.1 ∧ x.2.1 ≤ 100000 ∧ (x.1.1.length ≤ 1000000 ∧ 0 ≤ x.1.2.1 ∧ x.1.2.1 ≤ 300)) (f := fun x => a90 x.1 x.2.1.toNat)
  ⟨c0D h, (s0 (n := (n : Int))).2 (by omega), trivial⟩ ⟨by show (0 : Int) ≤ n; omega, by show (n : Int) ≤ 100000; omega, h.1, h.2.2⟩
 exact this
theorem b5X {s : Rd} (h : b2b s) (n : Nat) : bytes (a90 s n).1 ∧ b2b (a90 s n).2 := by
 obtain ⟨h1, h2, h3, h4⟩ := h
 unfold a90
 split
 ·exact ⟨b3J n, h1, h2, h3, h4⟩
 ·split
  ·exact ⟨b3J n, h1, h2, by dsimp only; omega, by dsimp only; omega⟩
  ·exact ⟨a1E h2 n, by dsimp only; rw [List.length_drop]; omega, a3H h2 n, by dsimp only; omega, by dsimp only; omega⟩
theorem b4P {s : Rd} {n : Nat} : (a90 s n).1.length ≤ n := by
 unfold a90
 split
 ·simp
 ·split
  ·simp
  ·show (s.1.take n).length ≤ n
   rw [List.length_take]; omega
theorem b9Z (s : Rd) : (s.1, s.2.1, ()) = s := rfl
theorem a3x : ∀ x r, c9 x = some r → ∃ N, v3 N x = some r := by
 refine j9 (ks := o8) (rs := o9) fun x hw hq => ⟨0, ?_⟩
 obtain ⟨(s : Rd), (n : Int), u⟩ := x
 obtain ⟨_, hb⟩ := c0O hw.1
 obtain ⟨h1, h2, h3⟩ : 1 ≤ n ∧ n ≤ 8 ∧ (s.1.length ≤ 1000000 ∧ 0 ≤ s.2.1 ∧ s.2.1 ≤ 300) := hq
 obtain ⟨n, rfl⟩ : ∃ m : Nat, n = m := ⟨n.toNat, by omega⟩
 show v3 0 (s, (n : Int), u) = some (j7 s ((n : Int).toNat))
 have hs : b2b s := ⟨h3.1, hb, h3.2⟩
 rw [Int.toNat_natCast]
 unfold v3 j7
 simp only [b9Z]
 have hl : (a90 s n).1.length ≤ n := b4P
 rw [b9N hs (by omega), Option.bind_some, b7e (b5X hs n).1 (by omega), Option.bind_some]
theorem b2I {s : Rd} (h : b2b s) {n : Nat} (hn : 1 ≤ n ∧ n ≤ 8) : c9 (s, (n : Int), ()) = some (j7 s n) := by
 have := j6 (ks := o8) (rs := o9) (x := (s, (n : Int), ())) (Q := fun x => 1 ≤ x.2.1 ∧ x.2.1 ≤ 8 ∧ (x.1.1.length ≤ 1000000 ∧ 0 ≤ x.1.2.1 ∧ x.1.2.1 ≤ 300)) (f := fun x => j7 x.1 x.2.1.toNat)
  ⟨c0D h, (s0 (n := (n : Int))).2 (by omega), trivial⟩ ⟨by show (1 : Int) ≤ n; omega, by show (n : Int) ≤ 8; omega, h.1, h.2.2⟩
 exact this
theorem a84 {s : Rd} (h : b2b s) (n : Nat) : b2b (j7 s n).2 := (b5X h n).2
theorem b1E {s : Rd} (h : b2b s) {n : Nat} (hn : n ≤ 8) : 0 ≤ (j7 s n).1 ∧ (j7 s n).1 < 256 ^ n := by
 obtain ⟨h1, h2⟩ := a1f _ rfl (b5X h n).1
 have hl : (a90 s n).1.length ≤ n := b4P
 exact ⟨h1, Int.lt_of_lt_of_le h2 (b9X hl)⟩
theorem a47 : ∀ x r, i6 x = some r → ∃ N, x4 N x = some r := by
 refine j9 (ks := u3) (rs := u4) fun x hw hq => ⟨0, ?_⟩
 obtain ⟨(s : Rd), (most : Int), u⟩ := x
 obtain ⟨_, hb⟩ := c0O hw.1
 obtain ⟨h1, h2, h3⟩ : 0 ≤ most ∧ most ≤ 10000 ∧ (s.1.length ≤ 1000000 ∧ 0 ≤ s.2.1 ∧ s.2.1 ≤ 300) := hq
 show x4 0 (s, most, u) = some (a1F s most)
 have hs : b2b s := ⟨h3.1, hb, h3.2⟩
 unfold x4 a1F
 simp only [b9Z]
 have e2 : (256 : Int) ^ 2 = 65536 := by decide
 have hn := b1E hs (n := 2) (by omega)
 have ho := a84 hs 2
 rw [show (2 : Int) = ((2 : Nat) : Int) from rfl, b2I hs (by omega), Option.bind_some, f7 (by omega) (by omega)]
 by_cases e : (j7 s 2).2.2.1 = 0
 ·have e' : ¬ (j7 s 2).2.2.1 ≠ 0 := by simp [e]
  by_cases hm : most < (j7 s 2).1
  ·rw [if_pos e, if_pos (by omega), if_pos (by decide), if_neg e', if_pos hm]
  ·have em : (j7 s 2).1 = (((j7 s 2).1.toNat : Nat) : Int) := by omega
   have := b9N ho (n := (j7 s 2).1.toNat) (by omega)
   rw [← em] at this
   rw [if_pos e, if_neg (by omega), if_neg e', this, Option.bind_some, if_neg e', if_neg hm]
 ·rw [if_neg e, if_pos e, if_pos e]
theorem b8S {s : Rd} (h : b2b s) {most : Int} (hm : 0 ≤ most ∧ most ≤ 10000) : i6 (s, most, ()) = some (a1F s most) := by
 have := j6 (ks := u3) (rs := u4) (x := (s, most, ())) (Q := fun x => 0 ≤ x.2.1 ∧ x.2.1 ≤ 10000 ∧ (x.1.1.length ≤ 1000000 ∧ 0 ≤ x.1.2.1 ∧ x.1.2.1 ≤ 300)) (f := fun x => a1F x.1 x.2.1)
  ⟨c0D h, (s0 (n := most)).2 (by omega), trivial⟩ ⟨hm.1, hm.2, h.1, h.2.2⟩
 exact this
end Go.Ax.TryP
set_option linter.unusedVariables false
namespace Go.Ax.TryP
open Go.Proofs
theorem c2i : bytes [] := fun z hz => by cases hz
theorem rN {s : Rd} (hs : b2b s) {w : Nat} {wi : Int} (hwi : wi = (w : Int)) (hw : 1 ≤ w ∧ w ≤ 8) {G : Int × Rd → Option (Ms × Int)} {K : Int → List Int → Int ⊕ (Ms × List Int)}
  (hG : ∀ n s', 0 ≤ n → n < 256 ^ w → b2b s' → G (n, s') = some (b2O (if s'.2.1 ≠ 0 then .inl s'.2.1 else K n s'.1))) :
  (c9 (s, wi, ())).bind G = some (b2O (if s.2.1 ≠ 0 then .inl s.2.1 else rdN w s.1 K)) := by
 subst hwi
 have hb := b1E hs (n := w) hw.2
 rw [b2I hs hw, Option.bind_some, show j7 s w = ((j7 s w).1, (j7 s w).2) from rfl, hG _ _ hb.1 hb.2 (a84 hs w)]
 clear hG hb
 unfold j7 a90 rdN
 by_cases e : s.2.1 = 0
 ·rw [if_neg (show ¬ s.2.1 ≠ 0 by simp [e]), if_neg (show ¬ s.2.1 ≠ 0 by simp [e])]
  by_cases hl : s.1.length < w
  ·rw [if_pos hl, if_pos hl]; rfl
  ·rw [if_neg hl, if_neg hl]; rfl
 ·rw [if_pos e, if_pos e]
  dsimp only
  rw [if_pos e]
theorem rT {s : Rd} (hs : b2b s) {most : Int} (hm : 0 ≤ most ∧ most ≤ 10000) {G : List Int × Rd → Option (Ms × Int)} {K : List Int → List Int → Int ⊕ (Ms × List Int)}
  (hG : ∀ t s', bytes t → t.length ≤ 100000 → b2b s' → G (t, s') = some (b2O (if s'.2.1 ≠ 0 then .inl s'.2.1 else K t s'.1))) :
  (i6 (s, most, ())).bind G = some (b2O (if s.2.1 ≠ 0 then .inl s.2.1 else rdT most s.1 K)) := by
 have hn := b1E hs (n := 2) (by omega)
 have e2 : (256 : Int) ^ 2 = 65536 := by decide
 have ho := a84 hs 2
 have htx : bytes (a1F s most).1 ∧ (a1F s most).1.length ≤ 100000 ∧ b2b (a1F s most).2 := by
  obtain ⟨o1, o2, o3, o4⟩ := ho
  by_cases c1 : (j7 s 2).2.2.1 ≠ 0
  ·have : a1F s most = ([], (j7 s 2).2) := by unfold a1F; rw [if_pos c1]
   rw [this]
   exact ⟨c2i, by simp, o1, o2, o3, o4⟩
  ·by_cases c2 : most < (j7 s 2).1
   ·have : a1F s most = ([], ((j7 s 2).2.1, 3, ())) := by unfold a1F; rw [if_neg c1, if_pos c2]
    rw [this]
    exact ⟨c2i, by simp, o1, o2, by dsimp only; omega, by dsimp only; omega⟩
   ·have : a1F s most = a90 (j7 s 2).2 (j7 s 2).1.toNat := by unfold a1F; rw [if_neg c1, if_neg c2]
    rw [this]
    obtain ⟨k1, k2⟩ := b5X (s := (j7 s 2).2) ⟨o1, o2, o3, o4⟩ (j7 s 2).1.toNat
    have : (a90 (j7 s 2).2 (j7 s 2).1.toNat).1.length ≤ (j7 s 2).1.toNat := b4P
    exact ⟨k1, by omega, k2⟩
 rw [b8S hs hm, Option.bind_some, show a1F s most = ((a1F s most).1, (a1F s most).2) from rfl, hG _ _ htx.1 htx.2.1 htx.2.2]
 clear hG htx
 by_cases e : s.2.1 = 0
 ·rw [if_neg (show ¬ s.2.1 ≠ 0 by simp [e])]
  unfold rdT rdN
  by_cases hl : s.1.length < 2
  ·have q : j7 s 2 = (a3Q (List.replicate 2 0), (s.1, 8, ())) := by
    unfold j7 a90
    rw [if_neg (show ¬ s.2.1 ≠ 0 by simp [e]), if_pos hl]
   unfold a1F
   rw [q, if_pos hl]
   rfl
  ·have q : j7 s 2 = (a3Q (s.1.take 2), (s.1.drop 2, 0, ())) := by
    unfold j7 a90
    rw [if_neg (show ¬ s.2.1 ≠ 0 by simp [e]), if_neg hl]
   unfold a1F
   rw [q, if_neg hl]
   dsimp only
   rw [if_neg (show ¬ ((0 : Int) ≠ 0) by simp)]
   by_cases hmn : most < a3Q (s.1.take 2)
   ·rw [if_pos hmn, if_pos hmn]; rfl
   ·rw [if_neg hmn, if_neg hmn]
    unfold a90
    dsimp only
    rw [if_neg (show ¬ ((0 : Int) ≠ 0) by simp)]
    by_cases hl2 : (s.1.drop 2).length < (a3Q (s.1.take 2)).toNat
    ·rw [if_pos hl2, if_pos hl2]; rfl
    ·rw [if_neg hl2, if_neg hl2]; rfl
 ·rw [if_pos e]
  have q : j7 s 2 = (a3Q (List.replicate 2 0), s) := by
   unfold j7 a90
   rw [if_pos e]
  unfold a1F
  rw [q]
  dsimp only
  rw [if_pos e]
  dsimp only
  rw [if_pos e]
theorem rE {s : Rd} {m : Ms} (hm : s.2.1 = 0 → Y3 m) {r : Option (Ms × Int)}
  (h1 : s.2.1 ≠ 0 → r = some (zM, s.2.1)) (h2 : s.2.1 = 0 → s.1.length > 0 → r = some (zM, 212)) (h3 : s.2.1 = 0 → ¬ s.1.length > 0 → r = if A4 m = 0 then some (m, 0) else some (zM, A4 m)) :
  r = some (b2O (if s.2.1 ≠ 0 then .inl s.2.1 else .inr (m, s.1))) := by
 by_cases e : s.2.1 = 0
 ·rw [if_neg (show ¬ s.2.1 ≠ 0 by simp [e])]
  unfold b2O
  by_cases hl : s.1.length > 0
  ·rw [h2 e hl]; simp [hl]
  ·rw [h3 e hl]; simp only [hl, if_false]; split <;> rfl
 ·rw [h1 e, if_pos e]; rfl
theorem rN0 {c : List Int} (hs : b2b (c, 0, ())) {w : Nat} {wi : Int} (hwi : wi = (w : Int)) (hw : 1 ≤ w ∧ w ≤ 8) {G : Int × Rd → Option (Ms × Int)} {K : Int → List Int → Int ⊕ (Ms × List Int)}
  (hG : ∀ n s', 0 ≤ n → n < 256 ^ w → b2b s' → G (n, s') = some (b2O (if s'.2.1 ≠ 0 then .inl s'.2.1 else K n s'.1))) :
  (c9 ((c, 0, ()), wi, ())).bind G = some (b2O (rdN w c K)) := by
 have := rN hs hwi hw hG
 rwa [if_neg (by simp)] at this
theorem g0 : List.getD [(0 : Int)] 0 0 = 0 := rfl
theorem g1 (z : Int) : List.getD (List.set [(0 : Int)] 0 z) 0 0 = z := rfl
theorem g2 : List.getD (List.take 1 (List.replicate 2 (0 : Int))) 0 0 = 0 := rfl
theorem g3 : List.getD (List.drop 1 (List.replicate 2 (0 : Int))) 0 0 = 0 := rfl
theorem g4 (a c : Int) : List.getD (List.take 1 (List.set (List.set (List.replicate 2 (0 : Int)) 0 a) 1 c)) 0 0 = a := rfl
theorem g5 (a c : Int) : List.getD (List.drop 1 (List.set (List.set (List.replicate 2 (0 : Int)) 0 a) 1 c)) 0 0 = c := rfl
theorem w32 {n : Int} (h0 : 0 ≤ n) (h1 : n ≤ 4294967295) : IntKind.u32.wrap n = n := by simp [IntKind.wrap, IntKind.signed, IntKind.bits]; omega
theorem A5 : ([] : List Int).length ≤ maxLen ∧ bytes [] := ⟨by simp, fun z hz => by cases hz⟩
theorem c1y {α : Type} {b : List Int} {K : Int → List Int → Int ⊕ α} (h : ¬ b.length = 0) : rdN 1 b K = K (b.getD 0 0) (b.drop 1) := by
 unfold rdN
 rw [if_neg (by omega)]
 cases b with
 | nil => simp at h
 | cons z r => simp [a3Q]
theorem b8t (b : List Int) : List.take (b.length - 1) (b.drop 1) = b.drop 1 := List.take_of_length_le (by rw [List.length_drop]; omega)
theorem b4N : ∀ x r, a1M x = some r → ∃ N, X0 N x = some r := by
 refine j9 (ks := G9) (rs := H0) fun x hw hq => ⟨0, ?_⟩
 obtain ⟨(b : List Int), u⟩ := x
 obtain ⟨_, hb⟩ : b.length ≤ maxLen ∧ bytes b := Q2.1 hw.1
 have hl : b.length ≤ 1000000 := hq
 have hM := b7R
 have e1 : (256 : Int) ^ 1 = 256 := by decide
 have e2 : (256 : Int) ^ 2 = 65536 := by decide
 have e4 : (256 : Int) ^ 4 = 4294967296 := by decide
 have e8 : (256 : Int) ^ 8 = 18446744073709551616 := by decide
 show X0 0 (b, u) = some (w5 b)
 unfold X0 w5 rdA
 dsimp only
 simp only [g0, g1, g2, g3, g4, g5]
 by_cases h0 : b.length = 0
 ·rw [if_pos (by omega)]
  unfold rdN
  rw [if_pos (by omega)]
  rfl
 have hz := a6m hb 0
 rw [if_neg (by omega), if_pos (by decide), if_pos (by omega), c1y h0, f7 (x := b.getD 0 0) (by omega) (by omega), b8t]
 generalize ek : b.getD 0 0 = k at hz
 rw [b5s (by omega), Option.bind_some]
 by_cases hn : a5v k = ⟨#[]⟩
 ·rw [if_pos hn, if_pos hn]; rfl
 rw [if_neg hn, if_neg hn, if_pos (by omega)]
 have hs0 : b2b (b.drop 1, 0, ()) := ⟨by dsimp only; rw [List.length_drop]; omega, a3H hb 1, by dsimp only; omega, by dsimp only; omega⟩
 clear hw ek
 refine rN0 hs0 (w := 1) rfl (by omega) fun n1 s1 a1 b1 hs1 => ?_
 refine rN hs1 (w := 1) rfl (by omega) fun n2 s2 a2 b2 hs2 => ?_
 refine rN hs2 (w := 4) rfl (by omega) fun n3 s3 a3 b3 hs3 => ?_
 rw [f7 (x := n1) (by omega) (by omega), f7 (x := n2) (by omega) (by omega), w32 (n := n3) (by omega) (by omega)]
 rcases b2S k with ⟨ek, e⟩ | ⟨ek, e⟩ | ⟨ek, e⟩ | ⟨ek, e⟩ | ⟨ek, e⟩ | ⟨ek, e⟩ | ⟨d1, d2, d3, d4, d5, d6, e⟩ <;> rw [e]
 ·refine (if_pos ek).trans ?_
  rw [b3D]
  refine rN hs3 (w := 4) rfl (by omega) fun n4 s4 a4 b4 hs4 => ?_
  rw [w32 (n := n4) (by omega) (by omega)]
  rw [b3E]
  refine rN hs4 (w := 8) rfl (by omega) fun n5 s5 a5 b5 hs5 => ?_
  refine rN hs5 (w := 8) rfl (by omega) fun n6 s6 a6 b6 hs6 => ?_
  rw [b6I]
  refine rT hs6 (by omega) fun t7 s7 ht7 hl7 hs7 => ?_
  rw [b9u]
  refine rT hs7 (by omega) fun t8 s8 ht8 hl8 hs8 => ?_
  have hm : Y3 (k, n1, n2, n3, n4, n5, n6, 0, 0, t7, t8, [], ()) := ⟨(by dsimp only; omega), (by dsimp only; omega), (by dsimp only; omega), (by dsimp only; omega), (by dsimp only; omega), (by dsimp only; omega), (by dsimp only; omega), (by dsimp only; omega), (by dsimp only; omega), ⟨(by dsimp only; omega), ht7⟩, ⟨(by dsimp only; omega), ht8⟩, A5⟩
  dsimp only
  refine rE (fun _ => hm) (fun e => ?_) (fun e h => ?_) (fun e h => ?_)
  ·rw [if_neg e, if_neg e, if_pos e]; rfl
  ·rw [if_pos e, if_pos (by omega), if_neg (by decide), if_pos (by decide)]; rfl
  ·rw [if_pos e, if_neg (by omega), if_pos e, T3 hm, Option.bind_some]
   by_cases hc : A4 (k, n1, n2, n3, n4, n5, n6, 0, 0, t7, t8, [], ()) = 0
   ·rw [if_neg (not_not_intro hc), if_pos hc]
   ·rw [if_pos hc, if_neg hc]; rfl
 ·refine (if_neg (by omega)).trans ?_
  refine (if_pos ek).trans ?_
  rw [b3D]
  refine rN hs3 (w := 4) rfl (by omega) fun n4 s4 a4 b4 hs4 => ?_
  rw [w32 (n := n4) (by omega) (by omega)]
  rw [b3E]
  refine rN hs4 (w := 8) rfl (by omega) fun n5 s5 a5 b5 hs5 => ?_
  refine rN hs5 (w := 8) rfl (by omega) fun n6 s6 a6 b6 hs6 => ?_
  rw [b9u]
  refine rT hs6 (by omega) fun t7 s7 ht7 hl7 hs7 => ?_
  rw [b6J]
  refine rT hs7 (by omega) fun t8 s8 ht8 hl8 hs8 => ?_
  have hm : Y3 (k, n1, n2, n3, n4, n5, n6, 0, 0, [], t7, t8, ()) := ⟨(by dsimp only; omega), (by dsimp only; omega), (by dsimp only; omega), (by dsimp only; omega), (by dsimp only; omega), (by dsimp only; omega), (by dsimp only; omega), (by dsimp only; omega), (by dsimp only; omega), A5, ⟨(by dsimp only; omega), ht7⟩, ⟨(by dsimp only; omega), ht8⟩⟩
  dsimp only
  refine rE (fun _ => hm) (fun e => ?_) (fun e h => ?_) (fun e h => ?_)
  ·rw [if_neg e, if_neg e, if_pos e]; rfl
  ·rw [if_pos e, if_pos (by omega), if_neg (by decide), if_pos (by decide)]; rfl
  ·rw [if_pos e, if_neg (by omega), if_pos e, T3 hm, Option.bind_some]
   by_cases hc : A4 (k, n1, n2, n3, n4, n5, n6, 0, 0, [], t7, t8, ()) = 0
   ·rw [if_neg (not_not_intro hc), if_pos hc]
   ·rw [if_pos hc, if_neg hc]; rfl
 ·refine (if_neg (by omega)).trans ?_
  refine (if_neg (by omega)).trans ?_
  refine (if_pos ek).trans ?_
  rw [c1x]
  refine rN hs3 (w := 2) rfl (by omega) fun n4 s4 a4 b4 hs4 => ?_
  rw [f7 (x := n4) (by omega) (by omega)]
  rw [b9v]
  refine rN hs4 (w := 2) rfl (by omega) fun n5 s5 a5 b5 hs5 => ?_
  rw [f7 (x := n5) (by omega) (by omega)]
  rw [b6I]
  refine rT hs5 (by omega) fun t6 s6 ht6 hl6 hs6 => ?_
  have hm : Y3 (k, n1, n2, n3, 0, 0, 0, n4, n5, t6, [], [], ()) := ⟨(by dsimp only; omega), (by dsimp only; omega), (by dsimp only; omega), (by dsimp only; omega), (by dsimp only; omega), (by dsimp only; omega), (by dsimp only; omega), (by dsimp only; omega), (by dsimp only; omega), ⟨(by dsimp only; omega), ht6⟩, A5, A5⟩
  dsimp only
  refine rE (fun _ => hm) (fun e => ?_) (fun e h => ?_) (fun e h => ?_)
  ·rw [if_neg e, if_neg e, if_pos e]; rfl
  ·rw [if_pos e, if_pos (by omega), if_neg (by decide), if_pos (by decide)]; rfl
  ·rw [if_pos e, if_neg (by omega), if_pos e, T3 hm, Option.bind_some]
   by_cases hc : A4 (k, n1, n2, n3, 0, 0, 0, n4, n5, t6, [], [], ()) = 0
   ·rw [if_neg (not_not_intro hc), if_pos hc]
   ·rw [if_pos hc, if_neg hc]; rfl
 ·refine (if_neg (by omega)).trans ?_
  refine (if_neg (by omega)).trans ?_
  refine (if_neg (by omega)).trans ?_
  refine (if_pos ek).trans ?_
  rw [b9v]
  refine rN hs3 (w := 2) rfl (by omega) fun n4 s4 a4 b4 hs4 => ?_
  rw [f7 (x := n4) (by omega) (by omega)]
  rw [b6I]
  refine rT hs4 (by omega) fun t5 s5 ht5 hl5 hs5 => ?_
  have hm : Y3 (k, n1, n2, n3, 0, 0, 0, 0, n4, t5, [], [], ()) := ⟨(by dsimp only; omega), (by dsimp only; omega), (by dsimp only; omega), (by dsimp only; omega), (by dsimp only; omega), (by dsimp only; omega), (by dsimp only; omega), (by dsimp only; omega), (by dsimp only; omega), ⟨(by dsimp only; omega), ht5⟩, A5, A5⟩
  dsimp only
  refine rE (fun _ => hm) (fun e => ?_) (fun e h => ?_) (fun e h => ?_)
  ·rw [if_neg e, if_neg e, if_pos e]; rfl
  ·rw [if_pos e, if_pos (by omega), if_neg (by decide), if_pos (by decide)]; rfl
  ·rw [if_pos e, if_neg (by omega), if_pos e, T3 hm, Option.bind_some]
   by_cases hc : A4 (k, n1, n2, n3, 0, 0, 0, 0, n4, t5, [], [], ()) = 0
   ·rw [if_neg (not_not_intro hc), if_pos hc]
   ·rw [if_pos hc, if_neg hc]; rfl
 ·refine (if_neg (by omega)).trans ?_
  refine (if_neg (by omega)).trans ?_
  refine (if_neg (by omega)).trans ?_
  refine (if_neg (by omega)).trans ?_
  refine (if_pos ek).trans ?_
  rw [b3D]
  refine rN hs3 (w := 4) rfl (by omega) fun n4 s4 a4 b4 hs4 => ?_
  rw [w32 (n := n4) (by omega) (by omega)]
  rw [b3E]
  refine rN hs4 (w := 8) rfl (by omega) fun n5 s5 a5 b5 hs5 => ?_
  refine rN hs5 (w := 8) rfl (by omega) fun n6 s6 a6 b6 hs6 => ?_
  rw [b6J]
  refine rT hs6 (by omega) fun t7 s7 ht7 hl7 hs7 => ?_
  have hm : Y3 (k, n1, n2, n3, n4, n5, n6, 0, 0, [], [], t7, ()) := ⟨(by dsimp only; omega), (by dsimp only; omega), (by dsimp only; omega), (by dsimp only; omega), (by dsimp only; omega), (by dsimp only; omega), (by dsimp only; omega), (by dsimp only; omega), (by dsimp only; omega), A5, A5, ⟨(by dsimp only; omega), ht7⟩⟩
  dsimp only
  refine rE (fun _ => hm) (fun e => ?_) (fun e h => ?_) (fun e h => ?_)
  ·rw [if_neg e, if_neg e, if_pos e]; rfl
  ·rw [if_pos e, if_pos (by omega), if_neg (by decide), if_pos (by decide)]; rfl
  ·rw [if_pos e, if_neg (by omega), if_pos e, T3 hm, Option.bind_some]
   by_cases hc : A4 (k, n1, n2, n3, n4, n5, n6, 0, 0, [], [], t7, ()) = 0
   ·rw [if_neg (not_not_intro hc), if_pos hc]
   ·rw [if_pos hc, if_neg hc]; rfl
 ·refine (if_neg (by omega)).trans ?_
  refine (if_neg (by omega)).trans ?_
  refine (if_neg (by omega)).trans ?_
  refine (if_neg (by omega)).trans ?_
  refine (if_neg (by omega)).trans ?_
  refine (if_pos ek).trans ?_
  rw [b3D]
  refine rN hs3 (w := 4) rfl (by omega) fun n4 s4 a4 b4 hs4 => ?_
  rw [w32 (n := n4) (by omega) (by omega)]
  rw [b3E]
  refine rN hs4 (w := 8) rfl (by omega) fun n5 s5 a5 b5 hs5 => ?_
  refine rN hs5 (w := 8) rfl (by omega) fun n6 s6 a6 b6 hs6 => ?_
  rw [b6J]
  refine rT hs6 (by omega) fun t7 s7 ht7 hl7 hs7 => ?_
  have hm : Y3 (k, n1, n2, n3, n4, n5, n6, 0, 0, [], [], t7, ()) := ⟨(by dsimp only; omega), (by dsimp only; omega), (by dsimp only; omega), (by dsimp only; omega), (by dsimp only; omega), (by dsimp only; omega), (by dsimp only; omega), (by dsimp only; omega), (by dsimp only; omega), A5, A5, ⟨(by dsimp only; omega), ht7⟩⟩
  dsimp only
  refine rE (fun _ => hm) (fun e => ?_) (fun e h => ?_) (fun e h => ?_)
  ·rw [if_neg e, if_neg e, if_pos e]; rfl
  ·rw [if_pos e, if_pos (by omega), if_neg (by decide), if_pos (by decide)]; rfl
  ·rw [if_pos e, if_neg (by omega), if_pos e, T3 hm, Option.bind_some]
   by_cases hc : A4 (k, n1, n2, n3, n4, n5, n6, 0, 0, [], [], t7, ()) = 0
   ·rw [if_neg (not_not_intro hc), if_pos hc]
   ·rw [if_pos hc, if_neg hc]; rfl
 ·refine (if_neg d1).trans ?_
  refine (if_neg d2).trans ?_
  refine (if_neg d3).trans ?_
  refine (if_neg d4).trans ?_
  refine (if_neg d5).trans ?_
  refine (if_neg d6).trans ?_
  have hm : Y3 (k, n1, n2, n3, 0, 0, 0, 0, 0, [], [], [], ()) := ⟨(by dsimp only; omega), (by dsimp only; omega), (by dsimp only; omega), (by dsimp only; omega), (by dsimp only; omega), (by dsimp only; omega), (by dsimp only; omega), (by dsimp only; omega), (by dsimp only; omega), A5, A5, A5⟩
  dsimp only
  refine rE (fun _ => hm) (fun e => ?_) (fun e h => ?_) (fun e h => ?_)
  ·rw [if_neg e, if_neg e, if_pos e]; rfl
  ·rw [if_pos e, if_pos (by omega), if_neg (by decide), if_pos (by decide)]; rfl
  ·rw [if_pos e, if_neg (by omega), if_pos e, T3 hm, Option.bind_some]
   by_cases hc : A4 (k, n1, n2, n3, 0, 0, 0, 0, 0, [], [], [], ()) = 0
   ·rw [if_neg (not_not_intro hc), if_pos hc]
   ·rw [if_pos hc, if_neg hc]; rfl
end Go.Ax.TryP
