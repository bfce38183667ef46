/- A part of the proof: MsgS2, MsgP2, MsgQ7, MsgQ8, MsgQ9, MsgQ10, MsgW2. -/
import Derived.Test.YtdaompnhkfdlgaaMsgA
namespace Go.Ax.TryP
open Go.Proofs
def b2k (a b : Ms) : Bool := decide (a.1 = b.1) && (decide (a.2.1 = b.2.1) && (decide (a.2.2.1 = b.2.2.1) && (decide (a.2.2.2.1 = b.2.2.2.1) && (decide (a.2.2.2.2.1 = b.2.2.2.2.1) && (decide (a.2.2.2.2.2.1 = b.2.2.2.2.2.1) && (decide (a.2.2.2.2.2.2.1 = b.2.2.2.2.2.2.1) && (decide (a.2.2.2.2.2.2.2.1 = b.2.2.2.2.2.2.2.1) && (decide (a.2.2.2.2.2.2.2.2.1 = b.2.2.2.2.2.2.2.2.1) && (decide (a.2.2.2.2.2.2.2.2.2.1 = b.2.2.2.2.2.2.2.2.2.1) && (decide (a.2.2.2.2.2.2.2.2.2.2.1 = b.2.2.2.2.2.2.2.2.2.2.1) && (decide (a.2.2.2.2.2.2.2.2.2.2.2.1 = b.2.2.2.2.2.2.2.2.2.2.2.1))))))))))))
noncomputable def a0e : Ms × Ms × Unit → Option Bool := Y2 (ks := [.cat msL, .cat msL]) (rs := [.bool]) (fun _ => True) fun x => b2k x.1 x.2.1
end Go.Ax.TryP
set_option linter.unusedVariables false
namespace Go.Ax.TryP
open Go.Proofs
noncomputable def p_slices_Clonebyte_byte_E : AE := AE.ofI [(5, ty5), (29, ty29)] [] [] [] [] [] []
noncomputable def a0U : Hints := [(3000000, [2])]
noncomputable def a0V : Code := (Try.f42).body.getD .skip
abbrev i8 : List Kd := [.sl b8]
abbrev x5 : List Kd := [.sl b8]
noncomputable def s9 (N : Nat) (x : List Int × Unit) : Option (List Int) :=
 if (List.length x.1) = 0 then
  c1K (
   some []) (
   if (0 + (List.length x.1)) * 1 ≤ 140737488355328 then (
   some ((List.replicate 0 0) ++ x.1)) else none)
 else
  if (0 + (List.length x.1)) * 1 ≤ 140737488355328 then (
  some ((List.replicate 0 0) ++ x.1)) else none
theorem X6 : p_slices_Clonebyte_byte_E.Ok Try.prog := AE.ofI_ok (all_cons Y0 (all_cons v6 c6)) c6 c6 c6 c6
theorem Y7 (hE : p_slices_Clonebyte_byte_E.Ok Try.prog) {g : Ds i8 → Option (Rs i8)} (hg : ∀ x r, g x = some r → ∃ N, s9 N x = some r) : i0 Try.prog 42 ⟨i8, i8, g⟩ :=
 p8 (E := p_slices_Clonebyte_byte_E) (H := a0U) (L := fun N => LT.nil) (c := a0V) (ks := i8) (rs := x5) (F := s9) hE mix Try.func42 (by kernel_rfl) (fun N => OkAll.nil) (fun _ _ => by kernel_rfl) hg
noncomputable def p_ref21_Same_E : AE := AE.ofQ [(3, ty3), (25, ty25), (28, ty28), (29, ty29), (31, ty31)] [(19, A7)] [(28, .u64, 2)]
noncomputable def b0A : Hints := [(3000000, [4])]
noncomputable def b0B : Code := (Try.f28).body.getD .skip
abbrev E1 : List Kd := [.cat [.int .i64, .int .i64, .int .i64, .int .u32, .int .u32, .int .u64, .int .u64, .int .i64, .int .i64, .sl b8, .sl b8, .sl b8], .cat [.int .i64, .int .i64, .int .i64, .int .u32, .int .u32, .int .u64, .int .u64, .int .i64, .int .i64, .sl b8, .sl b8, .sl b8]]
abbrev X3 : List Kd := [.bool]
noncomputable def P9 (N : Nat) (x : (Int × Int × Int × Int × Int × Int × Int × Int × Int × List Int × List Int × List Int × Unit) × (Int × Int × Int × Int × Int × Int × Int × Int × Int × List Int × List Int × List Int × Unit) × Unit) : Option (Bool) :=
 if (x.1.1 = x.2.1.1) then
  if (x.1.2.1 = x.2.1.2.1) then
   if (x.1.2.2.1 = x.2.1.2.2.1) then
    if (x.1.2.2.2.1 = x.2.1.2.2.2.1) then
     if (x.1.2.2.2.2.1 = x.2.1.2.2.2.2.1) then
      if ((x.1.2.2.2.2.2.1 :: (x.1.2.2.2.2.2.2.1 :: [])) = (x.2.1.2.2.2.2.2.1 :: (x.2.1.2.2.2.2.2.2.1 :: []))) then
       if (x.1.2.2.2.2.2.2.2.1 = x.2.1.2.2.2.2.2.2.2.1) then
        if (x.1.2.2.2.2.2.2.2.2.1 = x.2.1.2.2.2.2.2.2.2.2.1) then
         (u6 (x.1.2.2.2.2.2.2.2.2.2.1, x.2.1.2.2.2.2.2.2.2.2.2.1, ())).bind fun r1 => (
         if (r1 = true) then
          (u6 (x.1.2.2.2.2.2.2.2.2.2.2.1, x.2.1.2.2.2.2.2.2.2.2.2.2.1, ())).bind fun r2 => (
          if (r2 = true) then
           (u6 (x.1.2.2.2.2.2.2.2.2.2.2.2.1, x.2.1.2.2.2.2.2.2.2.2.2.2.2.1, ())).bind fun r3 => (
           some (decide (r3 = true)))
          else
           some false)
         else
          some false)
        else
         some false
       else
        some false
      else
       some false
     else
      some false
    else
     some false
   else
    some false
  else
   some false
 else
  some false
theorem a76 (e0 : i0 Try.prog 19 A7) : p_ref21_Same_E.Ok Try.prog := AE.ofQ_ok (all_cons X9 (all_cons a2k (all_cons a00 (all_cons v6 (all_cons N5 c6))))) (all_cons ⟨e0, J8⟩ c6) (all_cons A0 c6)
theorem a9x (hE : p_ref21_Same_E.Ok Try.prog) {g : Ds E1 → Option (Rs [.bool])} (hg : ∀ x r, g x = some r → ∃ N, P9 N x = some r) : i0 Try.prog 28 ⟨E1, [.bool], g⟩ :=
 p8 (E := p_ref21_Same_E) (H := b0A) (L := fun N => LT.nil) (c := b0B) (ks := E1) (rs := X3) (F := P9) hE mix Try.func28 (by kernel_rfl) (fun N => OkAll.nil) (fun _ _ => by kernel_rfl) hg
end Go.Ax.TryP
set_option linter.unusedVariables false
set_option linter.unusedSimpArgs false
namespace Go.Ax.TryP
open Go.Proofs
theorem a5d {a b : List Int} (ha : a.length ≤ maxLen ∧ bytes a) (hb : b.length ≤ maxLen ∧ bytes b) : u6 (a, b, ()) = some (decide (a = b)) :=
 j6 (ks := x8) (rs := I0) (x := (a, b, ())) ⟨Q2.2 ha, Q2.2 hb, trivial⟩ trivial
theorem a2g : ∀ x r, i4 x = some r → ∃ N, s9 N x = some r := by
 refine j9 (ks := i8) (rs := x5) fun x hw hq => ⟨0, ?_⟩
 obtain ⟨(l : List Int), u⟩ := x
 have hq : l.length ≤ 1000000 := hq
 show s9 0 (l, u) = some l
 unfold s9
 dsimp only
 by_cases h : l.length = 0
 ·have : l = [] := List.eq_nil_of_length_eq_zero h
  subst this
  rw [if_pos h, if_pos (by simp)]
  exact a5f.2 ⟨rfl, rfl⟩
 ·rw [if_neg h, if_pos (by omega)]
  rfl
theorem b8Q {l : List Int} (h : l.length ≤ 1000000) (hl : bytes l) : i4 (l, ()) = some l := by
 have hM : 1000000 ≤ maxLen := by decide
 exact j6 (ks := i8) (rs := x5) (x := (l, ())) ⟨(Q2 (b := l)).2 ⟨by omega, hl⟩, trivial⟩ h
theorem b8h {c d : Ms} : b2k c d = true ↔ c = d := by
 obtain ⟨a1, a2, a3, a4, a5, a6, a7, a8, a9, a10, a11, a12, ⟨⟩⟩ := c
 obtain ⟨b1, b2, b3, b4, b5, b6, b7, b8, b9, b10, b11, b12, ⟨⟩⟩ := d
 simp only [b2k, Bool.and_eq_true, decide_eq_true_eq, Prod.mk.injEq, and_true, and_assoc]
theorem b8u {a b c d : Int} : a :: b :: [] = c :: d :: [] ↔ a = c ∧ b = d := by simp
end Go.Ax.TryP
set_option linter.unusedVariables false
set_option linter.unusedSimpArgs false
namespace Go.Ax.TryP
open Go.Proofs
end Go.Ax.TryP
set_option linter.unusedVariables false
set_option linter.unusedSimpArgs false
namespace Go.Ax.TryP
open Go.Proofs
def a3Q (b : List Int) : Int := b.foldl (fun a z => a * 256 + z) 0
theorem b4v (a b : List Int) : a3Q (a ++ b) = b.foldl (fun a z => a * 256 + z) (a3Q a) := by unfold a3Q; rw [List.foldl_append]
end Go.Ax.TryP
set_option linter.unusedVariables false
set_option linter.unusedSimpArgs false
namespace Go.Ax.TryP
open Go.Proofs
end Go.Ax.TryP
namespace Go.Ax.TryP
open Go.Proofs
noncomputable abbrev p9 : Sig := ⟨[.sl b8], [.sl b8], i4⟩
theorem a2j : i0 Try.prog 42 p9 := Y7 (X6) a2g
end Go.Ax.TryP
