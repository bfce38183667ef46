/- A part of the proof: MsgP5, MsgQ18, MsgW5. -/
import Derived.Test.YtdaompnhkfdlgaaMsgF
import Derived.Test.YtdaompnhkfdlgaaMsgD
set_option linter.unusedVariables false
namespace Go.Ax.TryP
open Go.Proofs
noncomputable abbrev a5v : Sig := ⟨[.sl b8], [.cat [.int .i64, .int .i64, .int .i64, .int .u32, .int .u32, .int .u64, .int .u64, .int .i64, .int .i64, .sl b8, .sl b8, .sl b8], .int .i64], J2⟩
noncomputable def p_law21_MsgBack_E : AE := AE.of [(3, ty3), (25, ty25), (28, ty28), (29, ty29), (31, ty31)] [(11, a0W), (16, a2u), (17, a0X), (32, a5v), (28, a06), (19, x5), (25, E8)]
noncomputable def a33 : Hints := [(3000000, [4])]
noncomputable def a34 : Code := (Try.f9).body.getD .skip
abbrev z7 : List Kd := [.cat [.int .i64, .int .i64, .int .i64, .int .u32, .int .u32, .int .u64, .int .u64, .int .i64, .int .i64, .sl b8, .sl b8, .sl b8], .sl b8]
abbrev R8 : List Kd := [.bool]
noncomputable def A5 (N : Nat) (x : (Int × Int × Int × Int × Int × Int × Int × Int × Int × List Int × List Int × List Int × Unit) × List Int × Unit) : Option (Bool) :=
 (A0 (())).bind fun r1 => (
 if (¬ (r1 = true)) then
  (A0 (())).bind fun r2 => (
  some (decide (r2 = true)))
 else
  (a0d ((x.1.1, x.1.2.1, x.1.2.2.1, x.1.2.2.2.1, x.1.2.2.2.2.1, x.1.2.2.2.2.2.1, x.1.2.2.2.2.2.2.1, x.1.2.2.2.2.2.2.2.1, x.1.2.2.2.2.2.2.2.2.1, x.1.2.2.2.2.2.2.2.2.2.1, x.1.2.2.2.2.2.2.2.2.2.2.1, x.1.2.2.2.2.2.2.2.2.2.2.2.1, ()), ())).bind fun r3 => (
  if (r3 = true) then
   (A0 (())).bind fun r4 => (
   some (decide (r4 = true)))
  else
   if ((((List.length x.2.1) : Nat) : Int) > (30000:Int)) then
    (A0 (())).bind fun r5 => (
    some (decide (r5 = true)))
   else
    (J3 ((x.1.1, x.1.2.1, x.1.2.2.1, x.1.2.2.2.1, x.1.2.2.2.2.1, x.1.2.2.2.2.2.1, x.1.2.2.2.2.2.2.1, x.1.2.2.2.2.2.2.2.1, x.1.2.2.2.2.2.2.2.2.1, x.1.2.2.2.2.2.2.2.2.2.1, x.1.2.2.2.2.2.2.2.2.2.2.1, x.1.2.2.2.2.2.2.2.2.2.2.2.1, ()), ())).bind fun r6 => (
    if (r6.2 = (0:Int)) then
     (J2 (r6.1, ())).bind fun r7 => (
     if (r7.2 ≠ (0:Int)) then
      some false
     else
      (w9 ((r7.1.1, r7.1.2.1, r7.1.2.2.1, r7.1.2.2.2.1, r7.1.2.2.2.2.1, r7.1.2.2.2.2.2.1, r7.1.2.2.2.2.2.2.1, r7.1.2.2.2.2.2.2.2.1, r7.1.2.2.2.2.2.2.2.2.1, r7.1.2.2.2.2.2.2.2.2.2.1, r7.1.2.2.2.2.2.2.2.2.2.2.1, r7.1.2.2.2.2.2.2.2.2.2.2.2.1, ()), (x.1.1, x.1.2.1, x.1.2.2.1, x.1.2.2.2.1, x.1.2.2.2.2.1, x.1.2.2.2.2.2.1, x.1.2.2.2.2.2.2.1, x.1.2.2.2.2.2.2.2.1, x.1.2.2.2.2.2.2.2.2.1, x.1.2.2.2.2.2.2.2.2.2.1, x.1.2.2.2.2.2.2.2.2.2.2.1, x.1.2.2.2.2.2.2.2.2.2.2.2.1, ()), ())).bind fun r8 => (
      if (¬ (r8 = true)) then
       some false
      else
       (J2 (x.2.1, ())).bind fun r9 => (
       if (r9.2 ≠ (0:Int)) then
        (w9 ((r9.1.1, r9.1.2.1, r9.1.2.2.1, r9.1.2.2.2.1, r9.1.2.2.2.2.1, r9.1.2.2.2.2.2.1, r9.1.2.2.2.2.2.2.1, r9.1.2.2.2.2.2.2.2.1, r9.1.2.2.2.2.2.2.2.2.1, r9.1.2.2.2.2.2.2.2.2.2.1, r9.1.2.2.2.2.2.2.2.2.2.2.1, r9.1.2.2.2.2.2.2.2.2.2.2.2.1, ()), ((List.getD [0] 0 0), (List.getD [0] 0 0), (List.getD [0] 0 0), (List.getD [0] 0 0), (List.getD [0] 0 0), (List.getD (List.take 1 (List.replicate 2 0)) 0 0), (List.getD (List.drop 1 (List.replicate 2 0)) 0 0), (List.getD [0] 0 0), (List.getD [0] 0 0), [], [], [], ()), ())).bind fun r10 => (
        some (decide (r10 = true)))
       else
        (J3 ((r9.1.1, r9.1.2.1, r9.1.2.2.1, r9.1.2.2.2.1, r9.1.2.2.2.2.1, r9.1.2.2.2.2.2.1, r9.1.2.2.2.2.2.2.1, r9.1.2.2.2.2.2.2.2.1, r9.1.2.2.2.2.2.2.2.2.1, r9.1.2.2.2.2.2.2.2.2.2.1, r9.1.2.2.2.2.2.2.2.2.2.2.1, r9.1.2.2.2.2.2.2.2.2.2.2.2.1, ()), ())).bind fun r11 => (
        if (r11.2 = (0:Int)) then
         (k9 (r11.1, x.2.1, ())).bind fun r12 => (
         if (r12 = true) then
          (s7 ((r9.1.1, r9.1.2.1, r9.1.2.2.1, r9.1.2.2.2.1, r9.1.2.2.2.2.1, r9.1.2.2.2.2.2.1, r9.1.2.2.2.2.2.2.1, r9.1.2.2.2.2.2.2.2.1, r9.1.2.2.2.2.2.2.2.2.1, r9.1.2.2.2.2.2.2.2.2.2.1, r9.1.2.2.2.2.2.2.2.2.2.2.1, r9.1.2.2.2.2.2.2.2.2.2.2.2.1, ()), ())).bind fun r13 => (
          some (decide (r13 = (0:Int))))
         else
          some false)
        else
         some false))))
    else
     (J2 (x.2.1, ())).bind fun r14 => (
     if (r14.2 ≠ (0:Int)) then
      (w9 ((r14.1.1, r14.1.2.1, r14.1.2.2.1, r14.1.2.2.2.1, r14.1.2.2.2.2.1, r14.1.2.2.2.2.2.1, r14.1.2.2.2.2.2.2.1, r14.1.2.2.2.2.2.2.2.1, r14.1.2.2.2.2.2.2.2.2.1, r14.1.2.2.2.2.2.2.2.2.2.1, r14.1.2.2.2.2.2.2.2.2.2.2.1, r14.1.2.2.2.2.2.2.2.2.2.2.2.1, ()), ((List.getD [0] 0 0), (List.getD [0] 0 0), (List.getD [0] 0 0), (List.getD [0] 0 0), (List.getD [0] 0 0), (List.getD (List.take 1 (List.replicate 2 0)) 0 0), (List.getD (List.drop 1 (List.replicate 2 0)) 0 0), (List.getD [0] 0 0), (List.getD [0] 0 0), [], [], [], ()), ())).bind fun r15 => (
      some (decide (r15 = true)))
     else
      (J3 ((r14.1.1, r14.1.2.1, r14.1.2.2.1, r14.1.2.2.2.1, r14.1.2.2.2.2.1, r14.1.2.2.2.2.2.1, r14.1.2.2.2.2.2.2.1, r14.1.2.2.2.2.2.2.2.1, r14.1.2.2.2.2.2.2.2.2.1, r14.1.2.2.2.2.2.2.2.2.2.1, r14.1.2.2.2.2.2.2.2.2.2.2.1, r14.1.2.2.2.2.2.2.2.2.2.2.2.1, ()), ())).bind fun r16 => (
      if (r16.2 = (0:Int)) then
       (k9 (r16.1, x.2.1, ())).bind fun r17 => (
       if (r17 = true) then
        (s7 ((r14.1.1, r14.1.2.1, r14.1.2.2.1, r14.1.2.2.2.1, r14.1.2.2.2.2.1, r14.1.2.2.2.2.2.1, r14.1.2.2.2.2.2.2.1, r14.1.2.2.2.2.2.2.2.1, r14.1.2.2.2.2.2.2.2.2.1, r14.1.2.2.2.2.2.2.2.2.2.1, r14.1.2.2.2.2.2.2.2.2.2.2.1, r14.1.2.2.2.2.2.2.2.2.2.2.2.1, ()), ())).bind fun r18 => (
        some (decide (r18 = (0:Int))))
       else
        some false)
      else
       some false)))))
theorem a2K (e0 : i6 Try.prog 11 a0W) (e1 : i6 Try.prog 16 a2u) (e2 : i6 Try.prog 17 a0X) (e3 : i6 Try.prog 32 a5v) (e4 : i6 Try.prog 28 a06) (e5 : i6 Try.prog 19 x5) (e6 : i6 Try.prog 25 E8) : p_law21_MsgBack_E.Ok Try.prog := AE.of_ok (all_cons a0Q (all_cons a1O (all_cons a1P (all_cons x8 (all_cons M0 d0))))) (all_cons ⟨e0, a3L⟩ (all_cons ⟨e1, a4N⟩ (all_cons ⟨e2, a2l⟩ (all_cons ⟨e3, a63⟩ (all_cons ⟨e4, a3U⟩ (all_cons ⟨e5, F8⟩ (all_cons ⟨e6, L3⟩ d0)))))))
theorem a29 (hE : p_law21_MsgBack_E.Ok Try.prog) {g : Ds z7 → Option (Rs [.bool])} (hg : ∀ x r, g x = some r → ∃ N, A5 N x = some r) : i6 Try.prog 9 ⟨z7, [.bool], g⟩ :=
 v9 (E := p_law21_MsgBack_E) (H := a33) (L := fun N => LT.nil) (c := a34) (ks := z7) (rs := R8) (F := A5) hE mix Try.func9 (by kernel_rfl) (fun N => OkAll.nil) (fun _ _ => by kernel_rfl) hg
end Go.Ax.TryP
set_option linter.unusedVariables false
namespace Go.Ax.TryP
open Go.Proofs
theorem b3H {b : List Int} (hb : bytes b) (hl : b.length ≤ 1000000) : J2 (b, ()) = some (a5S b) := by
 have hM := b6K
 exact o8 (ks := J6) (rs := J7) (x := (b, ())) ⟨(a1Q (b := b)).2 ⟨by omega, hb⟩, trivial⟩ hl
theorem b8p (c : Ms) : (c.1, c.2.1, c.2.2.1, c.2.2.2.1, c.2.2.2.2.1, c.2.2.2.2.2.1, c.2.2.2.2.2.2.1, c.2.2.2.2.2.2.2.1, c.2.2.2.2.2.2.2.2.1, c.2.2.2.2.2.2.2.2.2.1, c.2.2.2.2.2.2.2.2.2.2.1, c.2.2.2.2.2.2.2.2.2.2.2.1, ()) = c := rfl
theorem b0C (c : Ms) : b0B c c = true := b4E.2 rfl
theorem b3L {b : List Int} (hb : bytes b) (hl : b.length ≤ 1000000) {F : Ms × Int → Option Bool}
  (h1 : (a5S b).2 ≠ 0 → F (a5S b) = (w9 (zM, zM, ())).bind fun r => some (decide (r = true))) (h2 : (a5S b).2 = 0 → F (a5S b) = some true) : (J2 (b, ())).bind F = some true := by
 rw [b3H hb hl, Option.bind_some]
 by_cases h : (a5S b).2 = 0
 ·exact h2 h
 ·rw [h1 h, a7L a8z a8z, Option.bind_some, b0C]; rfl
theorem a6F : ∀ x r, a1g x = some r → ∃ N, A5 N x = some r := by
 refine s0 (ks := z7) (rs := R8) fun x hw hq => ⟨0, ?_⟩
 obtain ⟨(c : Ms), (b : List Int), u⟩ := x
 have hc : a0T c := a2h.1 hw.1
 obtain ⟨_, hb⟩ : b.length ≤ maxLen ∧ bytes b := a1Q.1 hw.2.1
 have hM := b6K
 show A5 0 (c, b, u) = some true
 unfold A5
 dsimp only
 simp only [b8p]
 rw [b6u, Option.bind_some, if_neg (by simp), b6r hc, Option.bind_some]
 by_cases b1 : b7o c = true
 ·rw [if_pos b1, Option.bind_some]; rfl
 rw [if_neg b1]
 by_cases hl : b.length > 30000
 ·rw [if_pos (by omega), Option.bind_some]; rfl
 have hl2 : b.length ≤ 1000000 := by omega
 rw [if_neg (by omega), b3F hc, Option.bind_some]
 have tail : ∀ F : Ms × Int → Option Bool, (∀ y, F y = if y.2 ≠ 0 then (w9 (y.1, zM, ())).bind fun r => some (decide (r = true)) else (J3 (y.1, ())).bind fun r => if r.2 = (0 : Int) then (k9 (r.1, b, ())).bind fun q => if q = true then (s7 (y.1, ())).bind fun k => some (decide (k = (0 : Int))) else some false else some false) → (J2 (b, ())).bind F = some true := by
  intro F hF
  refine b3L hb hl2 (fun h => ?_) (fun h => ?_)
  ·rw [hF, if_pos h, a9D h]
  ·obtain ⟨m, h1, h2, h3⟩ := a8r h
   have hp := b6S hb h
   have hm : a0T (a5S b).1 := b6D hb
   rw [hF, if_neg (not_not_intro h), b3F hm, Option.bind_some, hp, if_pos rfl, a2R ⟨by omega, hb⟩ ⟨by omega, hb⟩, Option.bind_some, if_pos (by simp), a8i hm, Option.bind_some, h3]
   simp [h2]
 by_cases hp : (b2p c).2 = 0
 ·have hck : H1 c = 0 := by
   unfold b2p at hp
   split at hp
   ·assumption
   ·exact hp
  have hpo := b7T hc
  rw [if_pos hp, b3H hpo.2 (by omega), Option.bind_some, b6E hc hck, if_neg (by simp)]
  refine (congrArg (fun o => Option.bind o _) (show _ = some (b0B c c) from a7L hc hc)).trans ?_
  rw [Option.bind_some, b0C, if_neg (by simp)]
  exact tail _ fun y => rfl
 ·rw [if_neg hp]
  exact tail _ fun y => rfl
end Go.Ax.TryP
namespace Go.Ax.TryP
open Go.Proofs
theorem a86 : i6 Try.prog 67 F5 := a47 (a4a) a8W
theorem b4C : i6 Try.prog 32 a5v := a9T (a8H a77 a2O a86 a0D) b4t
noncomputable abbrev a5u : Sig := ⟨[.cat [.int .i64, .int .i64, .int .i64, .int .u32, .int .u32, .int .u64, .int .u64, .int .i64, .int .i64, .sl b8, .sl b8, .sl b8], .sl b8], [.bool], a1g⟩
theorem s_law21_MsgBack : i6 Try.prog 9 a5u := a29 (a2K b0q b1s b0r b4C b0A a0C a2O) a6F
end Go.Ax.TryP
