/- A part of the proof: MsgS4, MsgI2, MsgL1, MsgL2, MsgL3, MsgP4, MsgQ15, MsgQ16. -/
import Derived.Test.YtdaompnhkfdlgaaMsgD
set_option linter.unusedVariables false
namespace Go.Ax.TryP
open Go.Proofs
noncomputable def d0 : List Int × Unit → Option (Int × Int) := a0Z (ks := [.sl (.int .u8)]) (rs := [.int .u64, .int .i64]) (fun x => 1 ≤ x.1.length ∧ x.1.length ≤ 8) fun x => (a6q x.1, 0)
def rdN {α : Type} (w : Nat) (b : List Int) (K : Int → List Int → Int ⊕ α) : Int ⊕ α := if b.length < w then .inl 8 else K (a6q (b.take w)) (b.drop w)
def rdT {α : Type} (most : Int) (b : List Int) (K : List Int → List Int → Int ⊕ α) : Int ⊕ α := rdN 2 b fun n b => if most < n then .inl 3 else if b.length < n.toNat then .inl 8 else K (b.take n.toNat) (b.drop n.toNat)
def rdC (c : Int) (m : Ms) (b : List Int) (K : Ms → List Int → Int ⊕ (Ms × List Int)) : Int ⊕ (Ms × List Int) :=
 if c = 107 then rdN 4 b fun n b => K (m.1, m.2.1, m.2.2.1, m.2.2.2.1, n, m.2.2.2.2.2) b
 else if c = 114 then rdN 8 b fun lo b => rdN 8 b fun hi b => K (m.1, m.2.1, m.2.2.1, m.2.2.2.1, m.2.2.2.2.1, lo, hi, m.2.2.2.2.2.2.2) b
 else if c = 112 then rdN 2 b fun n b => K (m.1, m.2.1, m.2.2.1, m.2.2.2.1, m.2.2.2.2.1, m.2.2.2.2.2.1, m.2.2.2.2.2.2.1, n, m.2.2.2.2.2.2.2.2) b
 else if c = 110 then rdN 2 b fun n b => K (m.1, m.2.1, m.2.2.1, m.2.2.2.1, m.2.2.2.2.1, m.2.2.2.2.2.1, m.2.2.2.2.2.2.1, m.2.2.2.2.2.2.2.1, n, m.2.2.2.2.2.2.2.2.2) b
 else if c = 100 then rdT 1024 b fun t b => K (m.1, m.2.1, m.2.2.1, m.2.2.2.1, m.2.2.2.2.1, m.2.2.2.2.2.1, m.2.2.2.2.2.2.1, m.2.2.2.2.2.2.2.1, m.2.2.2.2.2.2.2.2.1, t, m.2.2.2.2.2.2.2.2.2.2) b
 else if c = 99 then rdT 6446 b fun t b => K (m.1, m.2.1, m.2.2.1, m.2.2.2.1, m.2.2.2.2.1, m.2.2.2.2.2.1, m.2.2.2.2.2.2.1, m.2.2.2.2.2.2.2.1, m.2.2.2.2.2.2.2.2.1, m.2.2.2.2.2.2.2.2.2.1, t, m.2.2.2.2.2.2.2.2.2.2.2) b
 else if c = 115 then rdT 3309 b fun t b => K (m.1, m.2.1, m.2.2.1, m.2.2.2.1, m.2.2.2.2.1, m.2.2.2.2.2.1, m.2.2.2.2.2.2.1, m.2.2.2.2.2.2.2.1, m.2.2.2.2.2.2.2.2.1, m.2.2.2.2.2.2.2.2.2.1, m.2.2.2.2.2.2.2.2.2.2.1, t, ()) b
 else K m b
def a4v : List Int → Ms → List Int → Int ⊕ (Ms × List Int)
 | [], m, b => .inr (m, b)
 | c :: l, m, b => rdC c m b (a4v l)
def rdA (b : List Int) : Int ⊕ (Ms × List Int) := rdN 1 b fun k b => if a5b k = ⟨#[]⟩ then .inl 211 else rdN 1 b fun f b => rdN 1 b fun t b => rdN 4 b fun i b => a4v (a38 k) (k, f, t, i, 0, 0, 0, 0, 0, [], [], [], ()) b
def zM : Ms := (0, 0, 0, 0, 0, 0, 0, 0, 0, [], [], [], ())
def b5y : Int ⊕ (Ms × List Int) → Ms × Int
 | .inl e => (zM, e)
 | .inr (m, b) => if b.length > 0 then (zM, 212) else if x8 m = 0 then (m, 0) else (zM, x8 m)
def b3h (b : List Int) : Ms × Int := b5y (rdA b)
noncomputable def I4 : List Int × Unit → Option (Ms × Int) := a0Z (ks := [.sl (.int .u8)]) (rs := [.cat msL, .int .i64]) (fun x => x.1.length ≤ 1000000) fun x => b3h x.1
noncomputable def a0P : Ms × Ms × Int × List Int × Unit → Option Bool := a0Z (ks := [.cat msL, .cat msL, .int .i64, .sl (.int .u8)]) (rs := [.bool]) (fun _ => True) fun _ => true
end Go.Ax.TryP
set_option linter.unusedVariables false
namespace Go.Ax.TryP
open Go.Proofs
noncomputable def F1 : Inl := Inl.ofSig l6
theorem P2 (e0 : i1 Try.prog 42 l6) : S5 Try.prog 42 F1 := Inl.ofSig_ok e0 x5 (fun args => by cases args <;> rfl)
noncomputable def a2L : AE := AE.ofI [(5, ty5), (29, ty29), (33, ty33), (64, ty64), (67, ty67)] [] [] [] [] [] []
noncomputable def G7 : Inl := a49 a2L 0 Try.f68
theorem L2 : S5 Try.prog 68 G7 := F2 (AE.ofI_ok (all_cons a0Y (all_cons s5 (all_cons a9v (all_cons a9x (all_cons b5p c6))))) c6 c6 c6 c6) mix Try.func68 0
noncomputable abbrev E5 : Sig := ⟨[.sl b8], [.int .u64, .int .i64], d0⟩
noncomputable def a1s : AE := AE.ofI [] [(67, E5)] [] [(68, G7)] [] [] []
noncomputable def D8 : Inl := a49 a1s 0 Try.f56
theorem G3 (e0 : i1 Try.prog 67 E5) : S5 Try.prog 56 D8 := F2 (AE.ofI_ok c6 (all_cons ⟨e0, a24⟩ c6) c6 (all_cons ⟨L2, G2⟩ c6) c6) mix Try.func56 0
noncomputable def a2K : AE := AE.ofI [(3, ty3), (25, ty25), (26, ty26), (29, ty29), (33, ty33), (64, ty64), (79, ty79), (81, ty81), (93, ty93), (95, ty95), (96, ty96), (98, ty98), (99, ty99), (101, ty101), (102, ty102)] [] [] [(56, D8), (68, G7), (42, F1), (90, a0j), (91, M8), (92, a0k), (93, a0i), (94, T1)] [16, 24, 32, 40, 47] [] [(81, "livery/msg.at", 90), (95, "livery/msg.at", 91), (98, "livery/msg.at", 92), (101, "livery/msg.at", 93), (102, "livery/msg.at", 94)]
noncomputable def X0 : Inl := a49 a2K 0 Try.f58
theorem a2k (e0 : i1 Try.prog 67 E5) (e1 : i1 Try.prog 42 l6) : S5 Try.prog 58 X0 := F2 (AE.ofI_ok (all_cons a0a (all_cons a0I (all_cons V0 (all_cons s5 (all_cons a9v (all_cons a9x (all_cons b2c (all_cons b2d (all_cons b2e (all_cons b2f (all_cons b2g (all_cons b2h (all_cons b2i (all_cons a9t (all_cons a9u c6))))))))))))))) c6 c6 (all_cons ⟨(G3 e0), E0⟩ (all_cons ⟨L2, G2⟩ (all_cons ⟨(P2 e1), x5⟩ (all_cons ⟨a0R, P6⟩ (all_cons ⟨Q6, L1⟩ (all_cons ⟨a0S, P7⟩ (all_cons ⟨a0Q, P5⟩ (all_cons ⟨X1, M5⟩ c6)))))))) (all_cons b6P (all_cons b6Q (all_cons b6R (all_cons b4Q (all_cons b4R c6)))))) mix Try.func58 0
theorem b59 : b5F Try.prog 20 := ⟨_, Try.underlying20⟩
noncomputable def cat_msg_Get_1_E : AE := AE.ofA [(3, ty3), (25, ty25), (28, ty28), (29, ty29), (31, ty31), (33, ty33), (64, ty64)] [] [] [] [] [] [] [] [] [20] [] []
noncomputable def a20 : Cat := b72 cat_msg_Get_1_E 0 Try.f55
theorem a3S : cat_msg_Get_1_E.Ok Try.prog := AE.ofA_ok (all_cons a0a (all_cons a0I (all_cons a0J (all_cons s5 (all_cons H7 (all_cons a9v (all_cons a9x c6))))))) c6 c6 c6 c6 c6 c6 (all_cons b59 c6) c6 c6
theorem a41 : b35 Try.prog 55 a20 := b5R a3S mix Try.func55 0
end Go.Ax.TryP
set_option linter.unusedVariables false
namespace Go.Ax.TryP
open Go.Proofs
theorem a95 (b : List Int) (z : Int) : a6q (b ++ [z]) = a6q b * 256 + z := by rw [a6r]; rfl
theorem b08 {b : List Int} {i : Nat} (hi : i < b.length) : b.take (i + 1) = b.take i ++ [b.getD i 0] := by
 rw [List.take_succ_eq_append_getElem hi, List.getD_eq_getElem?_getD, List.getElem?_eq_getElem hi]; rfl
theorem a8e {b : List Int} : ∀ (n : Nat), b.length = n → bytes b → 0 ≤ a6q b ∧ a6q b < 256 ^ n := by
 intro n
 induction n generalizing b with
 | zero => intro h _; have : b = [] := List.eq_nil_of_length_eq_zero h; subst this; exact ⟨Int.le_refl _, by decide⟩
 | succ n ih =>
  intro h hb
  obtain ⟨c, z, rfl⟩ : ∃ c z, b = c ++ [z] := ⟨b.take n, b.getD n 0, by rw [← b08 (by omega), List.take_of_length_le (by omega)]⟩
  rw [List.length_append] at h
  obtain ⟨h1, h2⟩ := ih (b := c) (by simpa using h) (fun y hy => hb y (by simp [hy]))
  have hz := hb z (by simp)
  rw [a95, Int.pow_succ]
  omega
theorem b8u {n m : Nat} (h : n ≤ m) : (256 : Int) ^ n ≤ 256 ^ m := by
 have := Nat.pow_le_pow_right (n := 256) (by decide) h
 rw [show (256 : Int) = ((256 : Nat) : Int) from rfl, ← Int.natCast_pow, ← Int.natCast_pow]
 exact Int.ofNat_le.2 this
theorem a2h {b : List Int} (hb : bytes b) (i : Nat) : bytes (b.take i) := fun z hz => hb z (List.mem_of_mem_take hz)
theorem a77 {b : List Int} (hb : bytes b) (i : Nat) : bytes (b.drop i) := fun z hz => hb z (List.mem_of_mem_drop hz)
theorem b3v {b : List Int} (hb : bytes b) {i : Nat} (hi : i < b.length) (hl : b.length ≤ 8) : 0 ≤ a6q (b.take i) ∧ a6q (b.take i) < 72057594037927936 := by
 obtain ⟨h1, h2⟩ := a8e i (by rw [List.length_take]; omega) (a2h hb i)
 have h3 : (256 : Int) ^ i ≤ 256 ^ 7 := b8u (by omega)
 have h4 : (256 : Int) ^ 7 = 72057594037927936 := by decide
 omega
theorem b8B {x z : Int} (hx : 0 ≤ x ∧ x < 72057594037927936) (hz : 0 ≤ z ∧ z ≤ 255) : ior .u64 (b7Q .u64 x 8) z = x * 256 + z := by
 obtain ⟨x, rfl⟩ : ∃ m : Nat, x = m := ⟨x.toNat, by omega⟩
 obtain ⟨z, rfl⟩ : ∃ m : Nat, z = m := ⟨z.toNat, by omega⟩
 have e := b6c (k := .u64) rfl (m := x) (s := 8) (by decide) (by show x * 2 ^ 8 < 2 ^ 64; omega)
 rw [show ((8 : Nat) : Int) = 8 from rfl] at e
 rw [e, b4I (k := .u64) rfl (by show x * 2 ^ 8 < 2 ^ 64; omega) (by show z < 2 ^ 64; omega), Nat.or_comm, b8t (show z < 2 ^ 8 by omega)]
 omega
theorem b7z {α : Type} {w : Nat} {b : List Int} {K : Int → List Int → Int ⊕ α} {z : α} (h : rdN w b K = .inr z) : ∃ c b', b = c ++ b' ∧ c.length = w ∧ K (a6q c) b' = .inr z := by
 unfold rdN at h
 split at h
 ·cases h
 ·exact ⟨b.take w, b.drop w, (List.take_append_drop w b).symm, by rw [List.length_take]; omega, h⟩
theorem v9 {α : Type} {w : Nat} {c b : List Int} (K : Int → List Int → Int ⊕ α) (h : c.length = w) : rdN w (c ++ b) K = K (a6q c) b := by
 unfold rdN
 rw [if_neg (by rw [List.length_append]; omega), List.take_left' h, List.drop_left' h]
theorem b7A {α : Type} {most : Int} {c t b : List Int} (K : List Int → List Int → Int ⊕ α) (hc : c.length = 2) (hn : a6q c = (t.length : Int)) (hm : (t.length : Int) ≤ most) : rdT most (c ++ (t ++ b)) K = K t b := by
 unfold rdT
 rw [v9 _ hc, hn, if_neg (by omega), Int.toNat_natCast, if_neg (by rw [List.length_append]; omega), List.take_left' rfl, List.drop_left' rfl]
theorem I0 {w : Nat} {b d : List Int} {K : Int → List Int → Int ⊕ (Ms × List Int)} {m : Ms} {r : List Int} (hK : ∀ n b' , K n b' = .inr (m, r) → K n (b' ++ d) = .inr (m, r ++ d)) (h : rdN w b K = .inr (m, r)) : rdN w (b ++ d) K = .inr (m, r ++ d) := by
 obtain ⟨c, b', rfl, hc, h⟩ := b7z h
 rw [List.append_assoc, v9 _ hc]
 exact hK _ _ h
theorem a9f {most : Int} {b d : List Int} {K : List Int → List Int → Int ⊕ (Ms × List Int)} {m : Ms} {r : List Int} (hK : ∀ t b', K t b' = .inr (m, r) → K t (b' ++ d) = .inr (m, r ++ d)) (h : rdT most b K = .inr (m, r)) : rdT most (b ++ d) K = .inr (m, r ++ d) := by
 refine I0 (fun n b' h => ?_) h
 split at h
 ·cases h
 ·split at h
  ·cases h
  ·rename_i h1 h2
   rw [if_neg h1, if_neg (by rw [List.length_append]; omega), List.take_append_of_le_length (by omega), List.drop_append_of_le_length (by omega)]
   exact hK _ _ h
theorem b6q {c : Int} {m : Ms} {b d : List Int} {K : Ms → List Int → Int ⊕ (Ms × List Int)} {z : Ms} {r : List Int} (hK : ∀ m b', K m b' = .inr (z, r) → K m (b' ++ d) = .inr (z, r ++ d)) (h : rdC c m b K = .inr (z, r)) : rdC c m (b ++ d) K = .inr (z, r ++ d) := by
 unfold rdC at h ⊢
 split at h
 ·rename_i e; rw [if_pos e]; exact I0 (fun _ _ => hK _ _) h
 rename_i e; rw [if_neg e]; clear e
 split at h
 ·rename_i e; rw [if_pos e]; exact I0 (fun _ _ h => I0 (fun _ _ => hK _ _) h) h
 rename_i e; rw [if_neg e]; clear e
 split at h
 ·rename_i e; rw [if_pos e]; exact I0 (fun _ _ => hK _ _) h
 rename_i e; rw [if_neg e]; clear e
 split at h
 ·rename_i e; rw [if_pos e]; exact I0 (fun _ _ => hK _ _) h
 rename_i e; rw [if_neg e]; clear e
 split at h
 ·rename_i e; rw [if_pos e]; exact a9f (fun _ _ => hK _ _) h
 rename_i e; rw [if_neg e]; clear e
 split at h
 ·rename_i e; rw [if_pos e]; exact a9f (fun _ _ => hK _ _) h
 rename_i e; rw [if_neg e]; clear e
 split at h
 ·rename_i e; rw [if_pos e]; exact a9f (fun _ _ => hK _ _) h
 rename_i e; rw [if_neg e]; exact hK _ _ h
theorem b2P {d : List Int} {z : Ms} {r : List Int} : ∀ (l : List Int) (m : Ms) (b : List Int), a4v l m b = .inr (z, r) → a4v l m (b ++ d) = .inr (z, r ++ d)
 | [], m, b, h => by cases h; rfl
 | c :: l, m, b, h => b6q (fun m b' => b2P l m b') h
theorem b6p {b d : List Int} {z : Ms} {r : List Int} (h : rdA b = .inr (z, r)) : rdA (b ++ d) = .inr (z, r ++ d) := by
 unfold rdA at h ⊢
 refine I0 (fun k b' h => ?_) h
 split at h
 ·cases h
 ·rename_i e
  rw [if_neg e]
  exact I0 (fun _ _ h => I0 (fun _ _ h => I0 (fun _ _ h => b2P _ _ _ h) h) h) h
end Go.Ax.TryP
set_option linter.unusedVariables false
namespace Go.Ax.TryP
open Go.Proofs
theorem a9S (k : Int) : (k = 1 ∧ a38 k = [107, 114, 100, 99]) ∨ (k = 2 ∧ a38 k = [107, 114, 99, 115]) ∨ (k = 3 ∧ a38 k = [112, 110, 100]) ∨ (k = 4 ∧ a38 k = [110, 100]) ∨ (k = 5 ∧ a38 k = [107, 114, 115]) ∨ (k = 6 ∧ a38 k = [107, 114, 115]) ∨ (k ≠ 1 ∧ k ≠ 2 ∧ k ≠ 3 ∧ k ≠ 4 ∧ k ≠ 5 ∧ k ≠ 6 ∧ a38 k = []) := by
 unfold a38
 by_cases h1 : k = 1
 ·subst h1; simp
 by_cases h2 : k = 2
 ·subst h2; simp
 by_cases h3 : k = 3
 ·subst h3; simp
 by_cases h4 : k = 4
 ·subst h4; simp
 by_cases h5 : k = 5
 ·subst h5; simp
 by_cases h6 : k = 6
 ·subst h6; simp
 simp [h1, h2, h3, h4, h5, h6]
theorem b84 {m : Ms} {b : List Int} {K : Ms → List Int → Int ⊕ (Ms × List Int)} : rdC 107 m b K = rdN 4 b fun n b => K (m.1, m.2.1, m.2.2.1, m.2.2.2.1, n, m.2.2.2.2.2) b := by simp [rdC]
theorem b87 {m : Ms} {b : List Int} {K : Ms → List Int → Int ⊕ (Ms × List Int)} : rdC 114 m b K = rdN 8 b fun lo b => rdN 8 b fun hi b => K (m.1, m.2.1, m.2.2.1, m.2.2.2.1, m.2.2.2.2.1, lo, hi, m.2.2.2.2.2.2.2) b := by simp [rdC]
theorem b86 {m : Ms} {b : List Int} {K : Ms → List Int → Int ⊕ (Ms × List Int)} : rdC 112 m b K = rdN 2 b fun n b => K (m.1, m.2.1, m.2.2.1, m.2.2.2.1, m.2.2.2.2.1, m.2.2.2.2.2.1, m.2.2.2.2.2.2.1, n, m.2.2.2.2.2.2.2.2) b := by simp [rdC]
theorem b85 {m : Ms} {b : List Int} {K : Ms → List Int → Int ⊕ (Ms × List Int)} : rdC 110 m b K = rdN 2 b fun n b => K (m.1, m.2.1, m.2.2.1, m.2.2.2.1, m.2.2.2.2.1, m.2.2.2.2.2.1, m.2.2.2.2.2.2.1, m.2.2.2.2.2.2.2.1, n, m.2.2.2.2.2.2.2.2.2) b := by simp [rdC]
theorem b83 {m : Ms} {b : List Int} {K : Ms → List Int → Int ⊕ (Ms × List Int)} : rdC 100 m b K = rdT 1024 b fun t b => K (m.1, m.2.1, m.2.2.1, m.2.2.2.1, m.2.2.2.2.1, m.2.2.2.2.2.1, m.2.2.2.2.2.2.1, m.2.2.2.2.2.2.2.1, m.2.2.2.2.2.2.2.2.1, t, m.2.2.2.2.2.2.2.2.2.2) b := by simp [rdC]
theorem b82 {m : Ms} {b : List Int} {K : Ms → List Int → Int ⊕ (Ms × List Int)} : rdC 99 m b K = rdT 6446 b fun t b => K (m.1, m.2.1, m.2.2.1, m.2.2.2.1, m.2.2.2.2.1, m.2.2.2.2.2.1, m.2.2.2.2.2.2.1, m.2.2.2.2.2.2.2.1, m.2.2.2.2.2.2.2.2.1, m.2.2.2.2.2.2.2.2.2.1, t, m.2.2.2.2.2.2.2.2.2.2.2) b := by simp [rdC]
theorem b88 {m : Ms} {b : List Int} {K : Ms → List Int → Int ⊕ (Ms × List Int)} : rdC 115 m b K = rdT 3309 b fun t b => K (m.1, m.2.1, m.2.2.1, m.2.2.2.1, m.2.2.2.2.1, m.2.2.2.2.2.1, m.2.2.2.2.2.2.1, m.2.2.2.2.2.2.2.1, m.2.2.2.2.2.2.2.2.1, m.2.2.2.2.2.2.2.2.2.1, m.2.2.2.2.2.2.2.2.2.2.1, t, ()) b := by simp [rdC]
theorem b0C {l : List Int} {m : Ms} {b : List Int} : a4v (107 :: l) m b = rdN 4 b fun n b => a4v l (m.1, m.2.1, m.2.2.1, m.2.2.2.1, n, m.2.2.2.2.2) b := b84
theorem b0D {l : List Int} {m : Ms} {b : List Int} : a4v (114 :: l) m b = rdN 8 b fun lo b => rdN 8 b fun hi b => a4v l (m.1, m.2.1, m.2.2.1, m.2.2.2.1, m.2.2.2.2.1, lo, hi, m.2.2.2.2.2.2.2) b := b87
theorem b8v {l : List Int} {m : Ms} {b : List Int} : a4v (112 :: l) m b = rdN 2 b fun n b => a4v l (m.1, m.2.1, m.2.2.1, m.2.2.2.1, m.2.2.2.2.1, m.2.2.2.2.2.1, m.2.2.2.2.2.2.1, n, m.2.2.2.2.2.2.2.2) b := b86
theorem b6s {l : List Int} {m : Ms} {b : List Int} : a4v (110 :: l) m b = rdN 2 b fun n b => a4v l (m.1, m.2.1, m.2.2.1, m.2.2.2.1, m.2.2.2.2.1, m.2.2.2.2.2.1, m.2.2.2.2.2.2.1, m.2.2.2.2.2.2.2.1, n, m.2.2.2.2.2.2.2.2.2) b := b85
theorem b3F {l : List Int} {m : Ms} {b : List Int} : a4v (100 :: l) m b = rdT 1024 b fun t b => a4v l (m.1, m.2.1, m.2.2.1, m.2.2.2.1, m.2.2.2.2.1, m.2.2.2.2.2.1, m.2.2.2.2.2.2.1, m.2.2.2.2.2.2.2.1, m.2.2.2.2.2.2.2.2.1, t, m.2.2.2.2.2.2.2.2.2.2) b := b83
theorem b6r {l : List Int} {m : Ms} {b : List Int} : a4v (99 :: l) m b = rdT 6446 b fun t b => a4v l (m.1, m.2.1, m.2.2.1, m.2.2.2.1, m.2.2.2.2.1, m.2.2.2.2.2.1, m.2.2.2.2.2.2.1, m.2.2.2.2.2.2.2.1, m.2.2.2.2.2.2.2.2.1, m.2.2.2.2.2.2.2.2.2.1, t, m.2.2.2.2.2.2.2.2.2.2.2) b := b82
theorem b3G {l : List Int} {m : Ms} {b : List Int} : a4v (115 :: l) m b = rdT 3309 b fun t b => a4v l (m.1, m.2.1, m.2.2.1, m.2.2.2.1, m.2.2.2.2.1, m.2.2.2.2.2.1, m.2.2.2.2.2.2.1, m.2.2.2.2.2.2.2.1, m.2.2.2.2.2.2.2.2.1, m.2.2.2.2.2.2.2.2.2.1, m.2.2.2.2.2.2.2.2.2.2.1, t, ()) b := b88
theorem b3q {k : Int} (h : a5b k ≠ ⟨#[]⟩) : 1 ≤ k ∧ k ≤ 8 := by
 apply Classical.byContradiction
 intro hn
 apply h
 unfold a5b
 rw [if_neg (by omega), if_neg (by omega), if_neg (by omega), if_neg (by omega), if_neg (by omega), if_neg (by omega), if_neg (by omega), if_neg (by omega)]
theorem b9k {z : Int} (h : 0 ≤ z ∧ z ≤ 255) : a6q [z % 256] = z := by simp [a6q]; omega
theorem rd1 {α : Type} {z : Int} {b : List Int} {K : Int → List Int → Int ⊕ α} (h : 0 ≤ z ∧ z ≤ 255) : rdN 1 ([z % 256] ++ b) K = K z b := (v9 K (show [z % 256].length = 1 from rfl)).trans (by rw [b9k h])
theorem nb4 {n : Int} (h : 0 ≤ n ∧ n ≤ 4294967295) : a6q (D1 n 4) = n := a3a 4 n h.1 (by rw [show (256 : Int) ^ 4 = 4294967296 by decide]; omega)
theorem nb8 {n : Int} (h : 0 ≤ n ∧ n ≤ 18446744073709551615) : a6q (D1 n 8) = n := a3a 8 n h.1 (by rw [show (256 : Int) ^ 8 = 18446744073709551616 by decide]; omega)
theorem nb2 {n : Int} (h : 0 ≤ n ∧ n ≤ 65535) : a6q (D1 n 2) = n := a3a 2 n h.1 (by rw [show (256 : Int) ^ 2 = 65536 by decide]; omega)
theorem b3u {c k : Int} {n : Nat} {m : Int} (h : a2n (p8 k c) n m = true) (hc : p8 k c = false) : n = 0 := by
 rw [hc] at h
 simpa [a2n] using h
theorem b6O {c k : Int} {n : Nat} {m : Int} (h : a2n (p8 k c) n m = true) (hc : p8 k c = true) : (n : Int) ≤ m := by
 rw [hc] at h
 simp [a2n] at h
 exact h.2
theorem b75 {n : Int} (h : b5x n = true) : 0 ≤ n ∧ n ≤ 255 := by
 unfold b5x at h
 have := of_decide_eq_true h
 omega
theorem a1O {most : Int} {t b : List Int} {K : List Int → List Int → Int ⊕ (Ms × List Int)} (h : (t.length : Int) ≤ most) (hm : most ≤ 10000) : rdT most (D1 (t.length : Int) 2 ++ (t ++ b)) K = K t b := b7A _ (d9 _ _) (nb2 (by omega)) h
theorem a9e {m : Ms} (hm : a19 m) (hc : x8 m = 0) (r : List Int) : rdA (o5 m true ++ r) = .inr (m, r) := by
 have ok := a8C hc
 have hn : a5b m.1 ≠ ⟨#[]⟩ := fun e => by
  unfold x8 at hc
  rw [if_pos e] at hc
  cases hc
 obtain ⟨k, f, t, i, key, lo, hi, pt, ps, d, ce, sg, u⟩ := m
 obtain ⟨_, _, _, m4, m5, m6, m7, _⟩ := hm
 dsimp only at hn m4 m5 m6 m7
 unfold okS at ok
 simp only [Bool.and_eq_true] at ok
 try dsimp only at ok
 obtain ⟨a1, a2, a3, a4, a5, a6, a7, a8, a9⟩ := ok
 have hk := b3q hn
 have a1 := b75 a1
 have a2 := b75 a2
 unfold a2U at a4
 unfold O7 at a5
 simp only [Bool.and_eq_true, decide_eq_true_eq] at a5
 try dsimp only at a4 a5
 obtain ⟨p1, p2, p3⟩ := a5
 have hform : o5 (k, f, t, i, key, lo, hi, pt, ps, d, ce, sg, u) true ++ r = [k % 256] ++ ([f % 256] ++ ([t % 256] ++ (D1 i 4 ++ (((a38 k).map (B1 (k, f, t, i, key, lo, hi, pt, ps, d, ce, sg, u) true)).flatten ++ r)))) := by
  unfold o5 a2j
  simp
 rw [hform]
 unfold rdA
 rw [rd1 (by omega), if_neg hn, rd1 a1, rd1 a2, v9 _ (d9 _ _), nb4 (by omega)]
 clear hform hc
 rcases a9S k with ⟨ek, e⟩ | ⟨ek, e⟩ | ⟨ek, e⟩ | ⟨ek, e⟩ | ⟨ek, e⟩ | ⟨ek, e⟩ | ⟨_, _, _, _, _, _, e⟩
 ·have z_d := b6O a6 (show p8 k 100 = true by unfold p8; rw [e]; rfl)
  have z_c := b6O a7 (show p8 k 99 = true by unfold p8; rw [e]; rfl)
  have z_s := b3u a8 (show p8 k 115 = false by unfold p8; rw [e]; rfl)
  have z_s := List.eq_nil_of_length_eq_zero z_s
  have z_d : (d.length : Int) ≤ 1024 := by rw [ek] at z_d; exact Int.le_trans z_d (by decide)
  have z4 : ps = 0 := by rw [(show p8 k 110 = false by unfold p8; rw [e]; rfl)] at p1; simpa using p1
  rw [if_neg (by rw [(show p8 k 112 = false by unfold p8; rw [e]; rfl)]; decide)] at p3
  have z5 : pt = 0 := by simpa using p3
  subst z_s z4 z5
  rw [e]
  simp only [List.map_cons, List.map_nil, List.flatten_cons, List.flatten_nil, B1]
  simp only [Int.reduceEq, if_true, if_false, and_true, List.append_assoc, List.append_nil]
  rw [b0C, v9 _ (d9 _ _), nb4 (by omega)]
  rw [b0D, v9 _ (d9 _ _), nb8 (by omega), v9 _ (d9 _ _), nb8 (by omega)]
  rw [b3F, a1O z_d (by omega)]
  rw [b6r, a1O z_c (by omega)]
  rfl
 ·have z_d := b3u a6 (show p8 k 100 = false by unfold p8; rw [e]; rfl)
  have z_d := List.eq_nil_of_length_eq_zero z_d
  have z_c := b6O a7 (show p8 k 99 = true by unfold p8; rw [e]; rfl)
  have z_s := b6O a8 (show p8 k 115 = true by unfold p8; rw [e]; rfl)
  have z4 : ps = 0 := by rw [(show p8 k 110 = false by unfold p8; rw [e]; rfl)] at p1; simpa using p1
  rw [if_neg (by rw [(show p8 k 112 = false by unfold p8; rw [e]; rfl)]; decide)] at p3
  have z5 : pt = 0 := by simpa using p3
  subst z_d z4 z5
  rw [e]
  simp only [List.map_cons, List.map_nil, List.flatten_cons, List.flatten_nil, B1]
  simp only [Int.reduceEq, if_true, if_false, and_true, List.append_assoc, List.append_nil]
  rw [b0C, v9 _ (d9 _ _), nb4 (by omega)]
  rw [b0D, v9 _ (d9 _ _), nb8 (by omega), v9 _ (d9 _ _), nb8 (by omega)]
  rw [b6r, a1O z_c (by omega)]
  rw [b3G, a1O z_s (by omega)]
  rfl
 ·have z_d := b6O a6 (show p8 k 100 = true by unfold p8; rw [e]; rfl)
  have z_c := b3u a7 (show p8 k 99 = false by unfold p8; rw [e]; rfl)
  have z_c := List.eq_nil_of_length_eq_zero z_c
  have z_s := b3u a8 (show p8 k 115 = false by unfold p8; rw [e]; rfl)
  have z_s := List.eq_nil_of_length_eq_zero z_s
  have z_d : (d.length : Int) ≤ 1024 := by rw [ek] at z_d; exact Int.le_trans z_d (by decide)
  rw [if_neg (by rw [(show p8 k 114 = false by unfold p8; rw [e]; rfl)]; decide)] at a4
  obtain ⟨z1, z2, z3⟩ := of_decide_eq_true a4
  rw [if_pos (show p8 k 112 = true by unfold p8; rw [e]; rfl)] at p3
  have p3 := of_decide_eq_true p3
  subst z_c z_s z1 z2 z3
  rw [e]
  simp only [List.map_cons, List.map_nil, List.flatten_cons, List.flatten_nil, B1]
  simp only [Int.reduceEq, if_true, if_false, and_true, List.append_assoc, List.append_nil]
  rw [b8v, v9 _ (d9 _ _), nb2 (by omega)]
  rw [b6s, v9 _ (d9 _ _), nb2 (by omega)]
  rw [b3F, a1O z_d (by omega)]
  rfl
 ·have z_d := b6O a6 (show p8 k 100 = true by unfold p8; rw [e]; rfl)
  have z_c := b3u a7 (show p8 k 99 = false by unfold p8; rw [e]; rfl)
  have z_c := List.eq_nil_of_length_eq_zero z_c
  have z_s := b3u a8 (show p8 k 115 = false by unfold p8; rw [e]; rfl)
  have z_s := List.eq_nil_of_length_eq_zero z_s
  have z_d : (d.length : Int) ≤ 1024 := by rw [ek] at z_d; exact Int.le_trans z_d (by decide)
  rw [if_neg (by rw [(show p8 k 114 = false by unfold p8; rw [e]; rfl)]; decide)] at a4
  obtain ⟨z1, z2, z3⟩ := of_decide_eq_true a4
  rw [if_neg (by rw [(show p8 k 112 = false by unfold p8; rw [e]; rfl)]; decide)] at p3
  have z5 : pt = 0 := by simpa using p3
  subst z_c z_s z1 z2 z3 z5
  rw [e]
  simp only [List.map_cons, List.map_nil, List.flatten_cons, List.flatten_nil, B1]
  simp only [Int.reduceEq, if_true, if_false, and_true, List.append_assoc, List.append_nil]
  rw [b6s, v9 _ (d9 _ _), nb2 (by omega)]
  rw [b3F, a1O z_d (by omega)]
  rfl
 ·have z_d := b3u a6 (show p8 k 100 = false by unfold p8; rw [e]; rfl)
  have z_d := List.eq_nil_of_length_eq_zero z_d
  have z_c := b3u a7 (show p8 k 99 = false by unfold p8; rw [e]; rfl)
  have z_c := List.eq_nil_of_length_eq_zero z_c
  have z_s := b6O a8 (show p8 k 115 = true by unfold p8; rw [e]; rfl)
  have z4 : ps = 0 := by rw [(show p8 k 110 = false by unfold p8; rw [e]; rfl)] at p1; simpa using p1
  rw [if_neg (by rw [(show p8 k 112 = false by unfold p8; rw [e]; rfl)]; decide)] at p3
  have z5 : pt = 0 := by simpa using p3
  subst z_d z_c z4 z5
  rw [e]
  simp only [List.map_cons, List.map_nil, List.flatten_cons, List.flatten_nil, B1]
  simp only [Int.reduceEq, if_true, if_false, and_true, List.append_assoc, List.append_nil]
  rw [b0C, v9 _ (d9 _ _), nb4 (by omega)]
  rw [b0D, v9 _ (d9 _ _), nb8 (by omega), v9 _ (d9 _ _), nb8 (by omega)]
  rw [b3G, a1O z_s (by omega)]
  rfl
 ·have z_d := b3u a6 (show p8 k 100 = false by unfold p8; rw [e]; rfl)
  have z_d := List.eq_nil_of_length_eq_zero z_d
  have z_c := b3u a7 (show p8 k 99 = false by unfold p8; rw [e]; rfl)
  have z_c := List.eq_nil_of_length_eq_zero z_c
  have z_s := b6O a8 (show p8 k 115 = true by unfold p8; rw [e]; rfl)
  have z4 : ps = 0 := by rw [(show p8 k 110 = false by unfold p8; rw [e]; rfl)] at p1; simpa using p1
  rw [if_neg (by rw [(show p8 k 112 = false by unfold p8; rw [e]; rfl)]; decide)] at p3
  have z5 : pt = 0 := by simpa using p3
  subst z_d z_c z4 z5
  rw [e]
  simp only [List.map_cons, List.map_nil, List.flatten_cons, List.flatten_nil, B1]
  simp only [Int.reduceEq, if_true, if_false, and_true, List.append_assoc, List.append_nil]
  rw [b0C, v9 _ (d9 _ _), nb4 (by omega)]
  rw [b0D, v9 _ (d9 _ _), nb8 (by omega), v9 _ (d9 _ _), nb8 (by omega)]
  rw [b3G, a1O z_s (by omega)]
  rfl
 ·have z_d := b3u a6 (show p8 k 100 = false by unfold p8; rw [e]; rfl)
  have z_d := List.eq_nil_of_length_eq_zero z_d
  have z_c := b3u a7 (show p8 k 99 = false by unfold p8; rw [e]; rfl)
  have z_c := List.eq_nil_of_length_eq_zero z_c
  have z_s := b3u a8 (show p8 k 115 = false by unfold p8; rw [e]; rfl)
  have z_s := List.eq_nil_of_length_eq_zero z_s
  rw [if_neg (by rw [(show p8 k 114 = false by unfold p8; rw [e]; rfl)]; decide)] at a4
  obtain ⟨z1, z2, z3⟩ := of_decide_eq_true a4
  have z4 : ps = 0 := by rw [(show p8 k 110 = false by unfold p8; rw [e]; rfl)] at p1; simpa using p1
  rw [if_neg (by rw [(show p8 k 112 = false by unfold p8; rw [e]; rfl)]; decide)] at p3
  have z5 : pt = 0 := by simpa using p3
  subst z_d z_c z_s z1 z2 z3 z4 z5
  rw [e]
  rfl
end Go.Ax.TryP
set_option linter.unusedVariables false
namespace Go.Ax.TryP
open Go.Proofs
theorem a4w {α : Type} {w : Nat} {b : List Int} {K : Int → List Int → Int ⊕ α} {e : Int} (h : rdN w b K = .inl e) : e = 8 ∨ ∃ n b', K n b' = .inl e := by
 unfold rdN at h
 split at h
 ·cases h; exact .inl rfl
 ·exact .inr ⟨_, _, h⟩
theorem b7B {α : Type} {most : Int} {b : List Int} {K : List Int → List Int → Int ⊕ α} {e : Int} (h : rdT most b K = .inl e) : (e = 8 ∨ e = 3) ∨ ∃ n b', K n b' = .inl e := by
 rcases a4w h with h | ⟨n, b', h⟩
 ·exact .inl (.inl h)
 ·split at h
  ·cases h; exact .inl (.inr rfl)
  ·split at h
   ·cases h; exact .inl (.inl rfl)
   ·exact .inr ⟨_, _, h⟩
theorem b7y {c : Int} {m : Ms} {b : List Int} {K : Ms → List Int → Int ⊕ (Ms × List Int)} {e : Int} (h : rdC c m b K = .inl e) : (e = 8 ∨ e = 3) ∨ ∃ m b', K m b' = .inl e := by
 have n1 : ∀ {w : Nat} {b : List Int} {G : Int → List Int → Int ⊕ (Ms × List Int)}, rdN w b G = .inl e → (∀ n b', G n b' = .inl e → (e = 8 ∨ e = 3) ∨ ∃ m b', K m b' = .inl e) → (e = 8 ∨ e = 3) ∨ ∃ m b', K m b' = .inl e := fun h hG => by
  rcases a4w h with h | ⟨n, b', h⟩
  ·exact .inl (.inl h)
  ·exact hG _ _ h
 have t1 : ∀ {w : Int} {b : List Int} {G : List Int → List Int → Int ⊕ (Ms × List Int)}, rdT w b G = .inl e → (∀ n b', G n b' = .inl e → (e = 8 ∨ e = 3) ∨ ∃ m b', K m b' = .inl e) → (e = 8 ∨ e = 3) ∨ ∃ m b', K m b' = .inl e := fun h hG => by
  rcases b7B h with h | ⟨n, b', h⟩
  ·exact .inl h
  ·exact hG _ _ h
 unfold rdC at h
 split at h
 ·exact n1 h fun _ _ h => .inr ⟨_, _, h⟩
 split at h
 ·exact n1 h fun _ _ h => n1 h fun _ _ h => .inr ⟨_, _, h⟩
 split at h
 ·exact n1 h fun _ _ h => .inr ⟨_, _, h⟩
 split at h
 ·exact n1 h fun _ _ h => .inr ⟨_, _, h⟩
 split at h
 ·exact t1 h fun _ _ h => .inr ⟨_, _, h⟩
 split at h
 ·exact t1 h fun _ _ h => .inr ⟨_, _, h⟩
 split at h
 ·exact t1 h fun _ _ h => .inr ⟨_, _, h⟩
 exact .inr ⟨_, _, h⟩
theorem b47 {e : Int} : ∀ (l : List Int) {m : Ms} {b : List Int}, a4v l m b = .inl e → e = 8 ∨ e = 3
 | [], m, b, h => by cases h
 | c :: l, m, b, h => by
  rcases b7y h with h | ⟨m', b', h⟩
  ·exact h
  ·exact b47 l h
theorem b7x {b : List Int} {e : Int} (h : rdA b = .inl e) : e = 8 ∨ e = 3 ∨ e = 211 := by
 unfold rdA at h
 rcases a4w h with h | ⟨n, b1, h⟩
 ·exact .inl h
 split at h
 ·cases h; exact .inr (.inr rfl)
 rcases a4w h with h | ⟨_, b2, h⟩
 ·exact .inl h
 rcases a4w h with h | ⟨_, b3, h⟩
 ·exact .inl h
 rcases a4w h with h | ⟨_, b4, h⟩
 ·exact .inl h
 rcases b47 _ h with h | h
 ·exact .inl h
 ·exact .inr (.inl h)
theorem b54 {b : List Int} (h : (b3h b).2 = 0) : ∃ m, rdA b = .inr (m, []) ∧ x8 m = 0 ∧ b3h b = (m, 0) := by
 unfold b3h at h ⊢
 cases e : rdA b with
 | inl x =>
  rw [e] at h
  rcases b7x e with h1 | h1 | h1 <;> subst h1 <;> exact absurd h (by decide)
 | inr z =>
  obtain ⟨m, r⟩ := z
  rw [e] at h
  simp only [b5y] at h ⊢
  split at h
  ·exact absurd h (by decide)
  ·rename_i hr
   have hr0 : r = [] := List.eq_nil_of_length_eq_zero (by omega)
   subst hr0
   split at h
   ·rename_i hc
    exact ⟨m, rfl, hc, by simp [hc]⟩
   ·rename_i hc
    exact absurd h hc
theorem b4D {b : List Int} (h : (b3h b).2 ≠ 0) : (b3h b).1 = zM := by
 unfold b3h at h ⊢
 cases e : rdA b with
 | inl x => rfl
 | inr z =>
  obtain ⟨m, r⟩ := z
  rw [e] at h
  simp only [b5y] at h ⊢
  split
  ·rfl
  ·rename_i hr
   rw [if_neg hr] at h
   split
   ·rename_i hc; rw [if_pos hc] at h; exact absurd rfl h
   ·rfl
theorem b8i {m : Ms} (hm : a19 m) (hc : x8 m = 0) (r : List Int) : b3h (o5 m true ++ r) = if r.length > 0 then (zM, 212) else (m, 0) := by
 unfold b3h
 rw [a9e hm hc]
 simp only [b5y]
 split
 ·rfl
 ·first | rfl | simp [hc]
theorem b7l {m : Ms} (hm : a19 m) (hc : x8 m = 0) {n : Nat} (hn : n < (o5 m true).length) : (b3h ((o5 m true).take n)).2 ≠ 0 := by
 intro h
 obtain ⟨m', h1, h2, h3⟩ := b54 h
 have h4 := b6p (d := (o5 m true).drop n) h1
 rw [List.take_append_drop] at h4
 have h5 := a9e hm hc []
 rw [List.append_nil, h4] at h5
 have h6 := (Prod.mk.inj (Sum.inr.inj h5)).2
 have := congrArg List.length h6
 rw [List.nil_append, List.length_drop, List.length_nil] at this
 omega
theorem b7j {a b : Ms} (ha : a19 a) (hb : a19 b) (ca : x8 a = 0) (cb : x8 b = 0) (h : o5 a true = o5 b true) : a = b := by
 have h1 := a9e ha ca []
 have h2 := a9e hb cb []
 rw [h, h2] at h1
 cases h1
 rfl
theorem b52 (m : Ms) : 7 ≤ (o5 m true).length := by
 unfold o5 a2j
 simp only [List.length_append, d9, List.length_cons, List.length_nil]
 omega
theorem b4W : a19 zM := by
 have hM := b8o
 unfold a19 zM
 dsimp only
 refine ⟨by omega, by omega, by omega, by omega, by omega, by omega, by omega, by omega, by omega, ⟨by simp, ?_⟩, ⟨by simp, ?_⟩, ⟨by simp, ?_⟩⟩ <;> exact fun z hz => by cases hz
end Go.Ax.TryP
set_option linter.unusedVariables false
namespace Go.Ax.TryP
open Go.Proofs
noncomputable def p_octet_BigOf_E : AE := AE.of [(5, ty5), (26, ty26), (29, ty29)] []
noncomputable def a1L : Hints := [(5, [4, 15, 16, 17]), (2000000, [4]), (2000001, [4, 15, 16, 17]), (3000000, [2, 3])]
noncomputable def O1 : Code := (Try.f67).body.getD .skip
noncomputable def a3l : Shape := mkS { tmps := pv 4 (.sc (.int .u64) :: pv 10 (.sc (.vec 0 none 1) :: .sc (.int .i64) :: .sc (.int .i64) :: pv 10 [])), mem := [.live [.xs b8 none] (.ro)] } [.int, .nat, .int, .int, .nat, .xs]
noncomputable def u1 (N : Nat) (β : Type) (x : W9) (kn : W9 → Option β) (ke : ((Int × Unit)) → Option β) : Option β :=
 if (x.2.2.2.1 < x.2.2.1) then
  if 0 ≤ x.2.2.2.1 then (
  if x.2.2.2.1 < ((x.2.1 : Nat) : Int) then (
  if (x.2.2.2.1.toNat) < x.2.2.2.2.1 then (
  kn ((ior IntKind.u64 (b7Q IntKind.u64 x.1 (8:Int)) (IntKind.u64.wrap (List.getD x.2.2.2.2.2.1 (x.2.2.2.1.toNat) 0))), x.2.1, x.2.2.1, (IntKind.i64.wrap (x.2.2.2.1 + (1:Int))), x.2.2.2.2.1, x.2.2.2.2.2.1, ())) else none) else none) else none
 else
  ke (x.1, ())
noncomputable def a2S : Go' ((Int × Unit)) := fun y K => K (.exit 0) (fSt { tmps := pv 4 (.sc (.int .u64) :: pv 23 []), mem := [] } [.int] y)
noncomputable def R6 (N : Nat) : LT := upd (LT.nil) 5 (a4c a3l N (u1 N) a2S)
theorem a2T (N : Nat) : OkAll p_octet_BigOf_E a1L N (R6 N) (w3 O1) :=
 S6 (c := U9 5 O1) (OkAll.nil) (by kernel_rfl) (fun x => by kernel_rfl) (fun β x kn ke => by kernel_rfl)
abbrev w6 : List Kd := [.sl b8]
abbrev w7 : List Kd := [.int .u64, .int .i64]
noncomputable def L4 (N : Nat) (x : List Int × Unit) : Option (Int × Int) :=
 if ((((List.length x.1) : Nat) : Int) < (1:Int)) then
  some ((0:Int), (1:Int))
 else
  if ((((List.length x.1) : Nat) : Int) > (8:Int)) then
   some ((0:Int), (1:Int))
  else
   a5a (u1 N) N ((0:Int), (List.length x.1), (((List.length x.1) : Nat) : Int), (0:Int), (List.length x.1), x.1, ()) fun y1 => (
   some (y1.1, (0:Int)))
theorem a4l : p_octet_BigOf_E.Ok Try.prog := AE.of_ok (all_cons a0Y (all_cons V0 (all_cons s5 c6))) c6
theorem a5n (hE : p_octet_BigOf_E.Ok Try.prog) {g : Ds w6 → Option (Rs w7)} (hg : ∀ x r, g x = some r → ∃ N, L4 N x = some r) : i1 Try.prog 67 ⟨w6, w7, g⟩ :=
 o9 (E := p_octet_BigOf_E) (H := a1L) (L := fun N => R6 N) (c := O1) (ks := w6) (rs := w7) (F := L4) hE mix Try.func67 (by kernel_rfl) (fun N => a2T N) (fun _ _ => by kernel_rfl) hg
end Go.Ax.TryP
set_option linter.unusedVariables false
namespace Go.Ax.TryP
open Go.Proofs
theorem a9c : ∀ x r, d0 x = some r → ∃ N, L4 N x = some r := by
 refine j7 (ks := w6) (rs := w7) fun x hw hq => ⟨10, ?_⟩
 obtain ⟨(b : List Int), u⟩ := x
 obtain ⟨_, hb⟩ : b.length ≤ maxLen ∧ bytes b := V1.1 hw.1
 obtain ⟨h1, h2⟩ : 1 ≤ b.length ∧ b.length ≤ 8 := hq
 unfold L4
 dsimp only
 rw [if_neg (by omega), if_neg (by omega)]
 refine (I6 (F := u1 10) (s := fun i => (a6q (b.take i), b.length, (b.length : Int), (i : Int), b.length, b, ())) (y := (a6q b, ())) b.length rfl ?_ ?_ 10 (by omega)).trans ?_
 ·intro i hi kn
  have hz := a8A hb i
  have hx := b3v hb hi h2
  unfold u1
  dsimp only
  rw [if_pos (by omega), if_pos (by omega), if_pos (by omega), Int.toNat_natCast, if_pos (by omega), K0 hz.1 (by omega), b8B hx hz, i2 (by omega) (by omega), b08 hi, a95]
  rfl
 ·intro kn
  unfold u1
  dsimp only
  rw [if_neg (by omega), List.take_length]
 ·rfl
theorem b5K {b : List Int} (hb : bytes b) (h : 1 ≤ b.length ∧ b.length ≤ 8) : d0 (b, ()) = some (a6q b, 0) := by
 have hM := b8o
 exact j5 (ks := w6) (rs := w7) (x := (b, ())) ⟨(V1 (b := b)).2 ⟨by omega, hb⟩, trivial⟩ h
end Go.Ax.TryP
set_option linter.unusedVariables false
namespace Go.Ax.TryP
open Go.Proofs
theorem g0 : List.getD [(0 : Int)] 0 0 = 0 := rfl
theorem g1 (z : Int) : List.getD (List.set [(0 : Int)] 0 z) 0 0 = z := rfl
theorem g2 : List.getD (List.take 1 (List.replicate 2 (0 : Int))) 0 0 = 0 := rfl
theorem g3 : List.getD (List.drop 1 (List.replicate 2 (0 : Int))) 0 0 = 0 := rfl
theorem g4 (a c : Int) : List.getD (List.take 1 (List.set (List.set (List.replicate 2 (0 : Int)) 0 a) 1 c)) 0 0 = a := rfl
theorem g5 (a c : Int) : List.getD (List.drop 1 (List.set (List.set (List.replicate 2 (0 : Int)) 0 a) 1 c)) 0 0 = c := rfl
theorem w32 {n : Int} (h0 : 0 ≤ n) (h1 : n ≤ 4294967295) : IntKind.u32.wrap n = n := by simp [IntKind.wrap, IntKind.signed, IntKind.bits]; omega
theorem X5 : ([] : List Int).length ≤ maxLen ∧ bytes [] := ⟨by simp, fun z hz => by cases hz⟩
end Go.Ax.TryP
