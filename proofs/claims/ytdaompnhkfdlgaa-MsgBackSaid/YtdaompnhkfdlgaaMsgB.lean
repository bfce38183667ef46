/- A part of the proof: MsgS2, MsgP2, MsgQ7, MsgQ8, MsgQ9, MsgQ10, MsgW2. -/
import Derived.Test.YtdaompnhkfdlgaaMsgA
namespace Go.Ax.TryP
open Go.Proofs
def b0B (a b : Ms) : Bool := decide (a.1 = b.1) && (decide (a.2.1 = b.2.1) && (decide (a.2.2.1 = b.2.2.1) && (decide (a.2.2.2.1 = b.2.2.2.1) && (decide (a.2.2.2.2.1 = b.2.2.2.2.1) && (decide (a.2.2.2.2.2.1 = b.2.2.2.2.2.1) && (decide (a.2.2.2.2.2.2.1 = b.2.2.2.2.2.2.1) && (decide (a.2.2.2.2.2.2.2.1 = b.2.2.2.2.2.2.2.1) && (decide (a.2.2.2.2.2.2.2.2.1 = b.2.2.2.2.2.2.2.2.1) && (decide (a.2.2.2.2.2.2.2.2.2.1 = b.2.2.2.2.2.2.2.2.2.1) && (decide (a.2.2.2.2.2.2.2.2.2.2.1 = b.2.2.2.2.2.2.2.2.2.2.1) && (decide (a.2.2.2.2.2.2.2.2.2.2.2.1 = b.2.2.2.2.2.2.2.2.2.2.2.1))))))))))))
noncomputable def w9 : Ms × Ms × Unit → Option Bool := a1S (ks := [.cat msL, .cat msL]) (rs := [.bool]) (fun _ => True) fun x => b0B x.1 x.2.1
def b7o (m : Ms) : Bool := decide (9000 < m.2.2.2.2.2.2.2.2.2.1.length) || (decide (9000 < m.2.2.2.2.2.2.2.2.2.2.1.length) || decide (9000 < m.2.2.2.2.2.2.2.2.2.2.2.1.length))
noncomputable def a0d : Ms × Unit → Option Bool := a1S (ks := [.cat msL]) (rs := [.bool]) (fun _ => True) fun x => b7o x.1
end Go.Ax.TryP
set_option linter.unusedVariables false
namespace Go.Ax.TryP
open Go.Proofs
noncomputable def p_slices_Clonebyte_byte_E : AE := AE.ofI [(5, ty5), (29, ty29)] [] [] [] [] [] []
noncomputable def U8 : Hints := [(3000000, [2])]
noncomputable def U9 : Code := (Try.f42).body.getD .skip
abbrev i9 : List Kd := [.sl b8]
abbrev u9 : List Kd := [.sl b8]
noncomputable def p8 (N : Nat) (x : List Int × Unit) : Option (List Int) :=
 if (List.length x.1) = 0 then
  b77 (
   some []) (
   if (0 + (List.length x.1)) * 1 ≤ 140737488355328 then (
   some ((List.replicate 0 0) ++ x.1)) else none)
 else
  if (0 + (List.length x.1)) * 1 ≤ 140737488355328 then (
  some ((List.replicate 0 0) ++ x.1)) else none
theorem P4 : p_slices_Clonebyte_byte_E.Ok Try.prog := AE.ofI_ok (all_cons a3y (all_cons x8 d0)) d0 d0 d0 d0
theorem Q2 (hE : p_slices_Clonebyte_byte_E.Ok Try.prog) {g : Ds i9 → Option (Rs i9)} (hg : ∀ x r, g x = some r → ∃ N, p8 N x = some r) : i6 Try.prog 42 ⟨i9, i9, g⟩ :=
 v9 (E := p_slices_Clonebyte_byte_E) (H := U8) (L := fun N => LT.nil) (c := U9) (ks := i9) (rs := u9) (F := p8) hE mix Try.func42 (by kernel_rfl) (fun N => OkAll.nil) (fun _ _ => by kernel_rfl) hg
noncomputable def p_ref21_Same_E : AE := AE.ofQ [(3, ty3), (25, ty25), (28, ty28), (29, ty29), (31, ty31)] [(19, x5)] [(28, .u64, 2)]
noncomputable def a7A : Hints := [(3000000, [4])]
noncomputable def a7B : Code := (Try.f28).body.getD .skip
abbrev B4 : List Kd := [.cat [.int .i64, .int .i64, .int .i64, .int .u32, .int .u32, .int .u64, .int .u64, .int .i64, .int .i64, .sl b8, .sl b8, .sl b8], .cat [.int .i64, .int .i64, .int .i64, .int .u32, .int .u32, .int .u64, .int .u64, .int .i64, .int .i64, .sl b8, .sl b8, .sl b8]]
abbrev P3 : List Kd := [.bool]
noncomputable def K8 (N : Nat) (x : (Int × Int × Int × Int × Int × Int × Int × Int × Int × List Int × List Int × List Int × Unit) × (Int × Int × Int × Int × Int × Int × Int × Int × Int × List Int × List Int × List Int × Unit) × Unit) : Option (Bool) :=
 if (x.1.1 = x.2.1.1) then
  if (x.1.2.1 = x.2.1.2.1) then
   if (x.1.2.2.1 = x.2.1.2.2.1) then
    if (x.1.2.2.2.1 = x.2.1.2.2.2.1) then
     if (x.1.2.2.2.2.1 = x.2.1.2.2.2.2.1) then
      if ((x.1.2.2.2.2.2.1 :: (x.1.2.2.2.2.2.2.1 :: [])) = (x.2.1.2.2.2.2.2.1 :: (x.2.1.2.2.2.2.2.2.1 :: []))) then
       if (x.1.2.2.2.2.2.2.2.1 = x.2.1.2.2.2.2.2.2.2.1) then
        if (x.1.2.2.2.2.2.2.2.2.1 = x.2.1.2.2.2.2.2.2.2.2.1) then
         (k9 (x.1.2.2.2.2.2.2.2.2.2.1, x.2.1.2.2.2.2.2.2.2.2.2.1, ())).bind fun r1 => (
         if (r1 = true) then
          (k9 (x.1.2.2.2.2.2.2.2.2.2.2.1, x.2.1.2.2.2.2.2.2.2.2.2.2.1, ())).bind fun r2 => (
          if (r2 = true) then
           (k9 (x.1.2.2.2.2.2.2.2.2.2.2.2.1, x.2.1.2.2.2.2.2.2.2.2.2.2.2.1, ())).bind fun r3 => (
           some (decide (r3 = true)))
          else
           some false)
         else
          some false)
        else
         some false
       else
        some false
      else
       some false
     else
      some false
    else
     some false
   else
    some false
  else
   some false
 else
  some false
theorem a5d (e0 : i6 Try.prog 19 x5) : p_ref21_Same_E.Ok Try.prog := AE.ofQ_ok (all_cons a0Q (all_cons a1O (all_cons a1P (all_cons x8 (all_cons M0 d0))))) (all_cons ⟨e0, F8⟩ d0) (all_cons L0 d0)
theorem a6B (hE : p_ref21_Same_E.Ok Try.prog) {g : Ds B4 → Option (Rs [.bool])} (hg : ∀ x r, g x = some r → ∃ N, K8 N x = some r) : i6 Try.prog 28 ⟨B4, [.bool], g⟩ :=
 v9 (E := p_ref21_Same_E) (H := a7A) (L := fun N => LT.nil) (c := a7B) (ks := B4) (rs := P3) (F := K8) hE mix Try.func28 (by kernel_rfl) (fun N => OkAll.nil) (fun _ _ => by kernel_rfl) hg
noncomputable def p_law21_big_E : AE := AE.ofQ [(29, ty29), (31, ty31)] [] [(28, .u64, 2)]
noncomputable def a8D : Hints := [(3000000, [2])]
noncomputable def a8E : Code := (Try.f16).body.getD .skip
abbrev D2 : List Kd := [.cat [.int .i64, .int .i64, .int .i64, .int .u32, .int .u32, .int .u64, .int .u64, .int .i64, .int .i64, .sl b8, .sl b8, .sl b8]]
abbrev U0 : List Kd := [.bool]
noncomputable def O1 (N : Nat) (x : (Int × Int × Int × Int × Int × Int × Int × Int × Int × List Int × List Int × List Int × Unit) × Unit) : Option (Bool) :=
 if (((List.length x.1.2.2.2.2.2.2.2.2.2.1 : Nat) : Int) > (9000:Int)) then
  some true
 else
  if (((List.length x.1.2.2.2.2.2.2.2.2.2.2.1 : Nat) : Int) > (9000:Int)) then
   some true
  else
   some (decide (((List.length x.1.2.2.2.2.2.2.2.2.2.2.2.1 : Nat) : Int) > (9000:Int)))
theorem a6i : p_law21_big_E.Ok Try.prog := AE.ofQ_ok (all_cons x8 (all_cons M0 d0)) d0 (all_cons L0 d0)
theorem a7e (hE : p_law21_big_E.Ok Try.prog) {g : Ds D2 → Option (Rs [.bool])} (hg : ∀ x r, g x = some r → ∃ N, O1 N x = some r) : i6 Try.prog 16 ⟨D2, [.bool], g⟩ :=
 v9 (E := p_law21_big_E) (H := a8D) (L := fun N => LT.nil) (c := a8E) (ks := D2) (rs := U0) (F := O1) hE mix Try.func16 (by kernel_rfl) (fun N => OkAll.nil) (fun _ _ => by kernel_rfl) hg
end Go.Ax.TryP
set_option linter.unusedVariables false
set_option linter.unusedSimpArgs false
namespace Go.Ax.TryP
open Go.Proofs
theorem a2R {a b : List Int} (ha : a.length ≤ maxLen ∧ bytes a) (hb : b.length ≤ maxLen ∧ bytes b) : k9 (a, b, ()) = some (decide (a = b)) :=
 o8 (ks := v4) (rs := E6) (x := (a, b, ())) ⟨a1Q.2 ha, a1Q.2 hb, trivial⟩ trivial
theorem a0A : ∀ x r, i4 x = some r → ∃ N, p8 N x = some r := by
 refine s0 (ks := i9) (rs := u9) fun x hw hq => ⟨0, ?_⟩
 obtain ⟨(l : List Int), u⟩ := x
 have hq : l.length ≤ 1000000 := hq
 show p8 0 (l, u) = some l
 unfold p8
 dsimp only
 by_cases h : l.length = 0
 ·have : l = [] := List.eq_nil_of_length_eq_zero h
  subst this
  rw [if_pos h, if_pos (by simp)]
  exact a2T.2 ⟨rfl, rfl⟩
 ·rw [if_neg h, if_pos (by omega)]
  rfl
theorem b5f {l : List Int} (h : l.length ≤ 1000000) (hl : bytes l) : i4 (l, ()) = some l := by
 have hM : 1000000 ≤ maxLen := by decide
 exact o8 (ks := i9) (rs := u9) (x := (l, ())) ⟨(a1Q (b := l)).2 ⟨by omega, hl⟩, trivial⟩ h
theorem b4E {c d : Ms} : b0B c d = true ↔ c = d := by
 obtain ⟨a1, a2, a3, a4, a5, a6, a7, a8, a9, a10, a11, a12, ⟨⟩⟩ := c
 obtain ⟨b1, b2, b3, b4, b5, b6, b7, b8, b9, b10, b11, b12, ⟨⟩⟩ := d
 simp only [b0B, Bool.and_eq_true, decide_eq_true_eq, Prod.mk.injEq, and_true, and_assoc]
theorem b4P {a b c d : Int} : a :: b :: [] = c :: d :: [] ↔ a = c ∧ b = d := by simp
theorem b1j : ∀ x r, a0d x = some r → ∃ N, O1 N x = some r := by
 refine s0 (ks := D2) (rs := U0) fun x hw hq => ⟨0, ?_⟩
 obtain ⟨(c : Ms), u⟩ := x
 show O1 0 (c, u) = some (b7o c)
 unfold O1 b7o
 dsimp only
 by_cases h1 : ((c.2.2.2.2.2.2.2.2.2.1.length : Nat) : Int) > 9000
 ·rw [if_pos h1, decide_eq_true (show 9000 < c.2.2.2.2.2.2.2.2.2.1.length by omega)]; rfl
 rw [if_neg h1, decide_eq_false (show ¬ 9000 < c.2.2.2.2.2.2.2.2.2.1.length by omega)]
 by_cases h2 : ((c.2.2.2.2.2.2.2.2.2.2.1.length : Nat) : Int) > 9000
 ·rw [if_pos h2, decide_eq_true (show 9000 < c.2.2.2.2.2.2.2.2.2.2.1.length by omega)]; rfl
 rw [if_neg h2, decide_eq_false (show ¬ 9000 < c.2.2.2.2.2.2.2.2.2.2.1.length by omega)]
 simp only [Bool.false_or]
 exact congrArg some (decide_eq_decide.2 (by omega))
theorem b6r {c : Ms} (h : a0T c) : a0d (c, ()) = some (b7o c) :=
 o8 (ks := D2) (rs := U0) (x := (c, ())) ⟨a2h.2 h, trivial⟩ trivial
end Go.Ax.TryP
set_option linter.unusedVariables false
set_option linter.unusedSimpArgs false
namespace Go.Ax.TryP
open Go.Proofs
theorem b7I (k : Int) : (a3W k).length ≤ 4 := by
 have hk : k = 1 ∨ k = 2 ∨ k = 3 ∨ k = 4 ∨ k = 5 ∨ k = 6 ∨ (k ≠ 1 ∧ k ≠ 2 ∧ k ≠ 3 ∧ k ≠ 4 ∧ k ≠ 5 ∧ k ≠ 6) := by omega
 rcases hk with rfl | rfl | rfl | rfl | rfl | rfl | ⟨g1, g2, g3, g4, g5, g6⟩
 all_goals first | decide | (unfold a3W; rw [if_neg g1, if_neg g2, if_neg g3, if_neg g4, if_neg g5, if_neg g6]; decide)
theorem a64 {c : Ms} (h : a0T c) (hf : b7x c) (all : Bool) : (w7 c all).length ≤ 300000 ∧ bytes (w7 c all) := by
 obtain ⟨_, _, _, _, _, _, _, _, _, h10, h11, h12⟩ := h
 obtain ⟨_, _, _, _, f10, f11, f12⟩ := hf
 have key : ∀ x, (v8 c all x).length ≤ 60010 ∧ bytes (v8 c all x) := by
  intro x
  unfold v8
  repeat' split
  all_goals first
   | exact ⟨by simp only [List.length_append, i2]; omega, by simp only [w3, j8, h10.2, h11.2, h12.2, and_self]⟩
   | exact ⟨by rw [i2]; omega, j8 _ _⟩
   | exact ⟨by simp, V5⟩
 have hh : (a1i c).length = 7 ∧ bytes (a1i c) := by
  unfold a1i
  refine ⟨by simp [i2], w3.2 ⟨fun z hz => ?_, j8 _ _⟩⟩
  simp only [List.mem_cons, List.not_mem_nil, or_false] at hz
  omega
 have hs : (a3W c.1).length ≤ 4 := b7I _
 have fl : ∀ (l : List Int), ((l.map (v8 c all)).flatten).length ≤ 60010 * l.length ∧ bytes ((l.map (v8 c all)).flatten) := by
  intro l
  induction l with
  | nil => exact ⟨by simp, V5⟩
  | cons a r ih =>
   simp only [List.map_cons, List.flatten_cons, List.length_append, List.length_cons, w3]
   have := key a
   exact ⟨by omega, this.2, ih.2⟩
 have := fl (a3W c.1)
 unfold w7
 refine ⟨by rw [List.length_append]; omega, w3.2 ⟨hh.2, this.2⟩⟩
end Go.Ax.TryP
set_option linter.unusedVariables false
set_option linter.unusedSimpArgs false
namespace Go.Ax.TryP
open Go.Proofs
def N0 (b : List Int) : Int := b.foldl (fun a z => a * 256 + z) 0
theorem a9v (n : Int) (w : Nat) : D0 n (w + 1) = D0 (n / 256) w ++ [n % 256] := by
 unfold D0
 rw [List.range_succ, List.map_append]
 congr 1
 ·refine List.map_congr_left fun i hi => ?_
  rw [List.mem_range] at hi
  have e : 8 * (w + 1 - 1 - i) = 8 + 8 * (w - 1 - i) := by omega
  rw [e, Int.pow_add, show (2 : Int) ^ 8 = 256 by decide, Int.ediv_ediv_of_nonneg (by decide)]
 ·simp
theorem a6b (a b : List Int) : N0 (a ++ b) = b.foldl (fun a z => a * 256 + z) (N0 a) := by unfold N0; rw [List.foldl_append]
theorem a24 : ∀ (w : Nat) (n : Int), 0 ≤ n → n < 256 ^ w → N0 (D0 n w) = n
 | 0, n, h0, h1 => by
  have : n = 0 := by simp at h1; omega
  subst this; rfl
 | w + 1, n, h0, h1 => by
  have h2 : n / 256 < 256 ^ w := by
   rw [Int.pow_succ] at h1
   exact Int.ediv_lt_of_lt_mul (by decide) h1
  rw [a9v, a6b, a24 w (n / 256) (by omega) h2]
  simp only [List.foldl_cons, List.foldl_nil]
  omega
end Go.Ax.TryP
set_option linter.unusedVariables false
set_option linter.unusedSimpArgs false
namespace Go.Ax.TryP
open Go.Proofs
end Go.Ax.TryP
namespace Go.Ax.TryP
open Go.Proofs
noncomputable abbrev o9 : Sig := ⟨[.sl b8], [.sl b8], i4⟩
theorem a0D : i6 Try.prog 42 o9 := Q2 (P4) a0A
noncomputable abbrev a2u : Sig := ⟨[.cat [.int .i64, .int .i64, .int .i64, .int .u32, .int .u32, .int .u64, .int .u64, .int .i64, .int .i64, .sl b8, .sl b8, .sl b8]], [.bool], a0d⟩
theorem b1s : i6 Try.prog 16 a2u := a7e (a6i) b1j
end Go.Ax.TryP
