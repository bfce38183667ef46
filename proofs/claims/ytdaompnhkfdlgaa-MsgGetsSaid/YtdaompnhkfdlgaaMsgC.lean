/- A part of the proof: MsgS3, MsgP3, MsgQ11, MsgQ12, MsgQ13, MsgW3. -/
import Derived.Test.YtdaompnhkfdlgaaMsgB
namespace Go.Ax.TryP
open Go.Proofs
end Go.Ax.TryP
set_option linter.unusedVariables false
namespace Go.Ax.TryP
open Go.Proofs
noncomputable abbrev a4B : Sig := ⟨[.int .i64, .int .i32], [.bool], l5⟩
noncomputable abbrev a4z : Sig := ⟨[.cat [.int .u64, .int .u64]], [.bool], I3⟩
noncomputable abbrev a6h : Sig := ⟨[.bool, .sl b8, .int .i64], [.bool], S7⟩
noncomputable abbrev a0B : Sig := ⟨[.int .i64, .sl b8], [.bool], N7⟩
noncomputable def p_ref21_Check_E : AE := AE.ofQ [(3, ty3), (25, ty25), (26, ty26), (28, ty28), (29, ty29), (31, ty31)] [(15, O2), (38, a4B), (49, a4z), (50, a6h), (51, a0B)] [(28, .u64, 2)]
noncomputable def v0 : Hints := [(3000000, [2]), (8000006, [1, 3]), (8000008, [1, 3]), (8000010, [1, 3]), (8000012, [1, 3]), (8000013, [1, 3, 4]), (8000015, [1, 3, 4]), (8000017, [1, 3])]
noncomputable def i1 : Code := (Try.f26).body.getD .skip
noncomputable def a41 : Shape := mkS { tmps := V :: .sc (.ptr 0 0 false) :: V :: .sc (.int .i64) :: pv 141 [], mem := [.live [.one (.int .i64), .one (.int .i64), .one (.int .i64), .one (.int .u32), .one (.int .u32), .one (.int .u64), .one (.int .u64), .one (.int .i64), .one (.int .i64), .one (.fr b8), .one (.fr b8), .one (.fr b8)] (.own)] } [.int, .int, .int, .int, .int, .int, .int, .int, .int, .int, .xs, .xs, .xs]
abbrev W11 : Type := Int × Int × Int × Int × Int × Int × Int × Int × Int × Int × List Int × List Int × List Int × Unit
noncomputable def A9 (N : Nat) (β : Type) (x : W11) (ke : ((Int × Unit)) → Option β) : Option β :=
 if (x.1 = (4:Int)) then
  (N7 (x.2.2.2.2.2.2.2.2.2.1, x.2.2.2.2.2.2.2.2.2.2.1, ())).bind fun r16 => (
  if (¬ (r16 = true)) then
   ke ((210:Int), ())
  else
   ke ((0:Int), ()))
 else
  ke ((0:Int), ())
noncomputable def a4b : Go' ((Int × Unit)) := fun y K => K .ret (fSt { tmps := V :: V :: .sc (.int .i64) :: pv 142 [], mem := [] } [.int] y)
noncomputable def V9 (N : Nat) : LT := upd (LT.nil) 8000017 (F5 a41 (A9 N) a4b)
theorem a4c (N : Nat) : OkAll p_ref21_Check_E v0 N (V9 N) (x9 i1) :=
 a67 (k := 17) (a := H4 8000017 i1) (b := z0 8000017 i1) (OkAll.nil) (by kernel_rfl) (fun x => by kernel_rfl) (fun β x K => by kernel_rfl)
noncomputable def a40 : Shape := mkS { tmps := V :: .sc (.ptr 0 0 false) :: V :: .sc (.int .i64) :: .sc (.int .i64) :: pv 140 [], mem := [.live [.one (.int .i64), .one (.int .i64), .one (.int .i64), .one (.int .u32), .one (.int .u32), .one (.int .u64), .one (.int .u64), .one (.int .i64), .one (.int .i64), .one (.fr b8), .one (.fr b8), .one (.fr b8)] (.own)] } [.int, .int, .int, .int, .int, .int, .int, .int, .int, .int, .int, .xs, .xs, .xs]
abbrev W12 : Type := Int × Int × Int × Int × Int × Int × Int × Int × Int × Int × Int × List Int × List Int × List Int × Unit
noncomputable def w9 (N : Nat) (β : Type) (x : W12) (ke : ((Int × Unit)) → Option β) : Option β :=
 (l5 (x.1, (100:Int), ())).bind fun r10 => (
 (S7 ((decide (r10 = true)), x.2.2.2.2.2.2.2.2.2.2.2.1, x.2.1, ())).bind fun r11 => (
 if (¬ (r11 = true)) then
  ke ((210:Int), ())
 else
  (l5 (x.1, (99:Int), ())).bind fun r12 => (
  (S7 ((decide (r12 = true)), x.2.2.2.2.2.2.2.2.2.2.2.2.1, (6446:Int), ())).bind fun r13 => (
  if (¬ (r13 = true)) then
   ke ((210:Int), ())
  else
   (l5 (x.1, (115:Int), ())).bind fun r14 => (
   (S7 ((decide (r14 = true)), x.2.2.2.2.2.2.2.2.2.2.2.2.2.1, (3309:Int), ())).bind fun r15 => (
   if (¬ (r15 = true)) then
    ke ((210:Int), ())
   else
    A9 N _ (x.1, x.2.2.1, x.2.2.2.1, x.2.2.2.2.1, x.2.2.2.2.2.1, x.2.2.2.2.2.2.1, x.2.2.2.2.2.2.2.1, x.2.2.2.2.2.2.2.2.1, x.2.2.2.2.2.2.2.2.2.1, x.2.2.2.2.2.2.2.2.2.2.1, x.2.2.2.2.2.2.2.2.2.2.2.1, x.2.2.2.2.2.2.2.2.2.2.2.2.1, x.2.2.2.2.2.2.2.2.2.2.2.2.2.1, ()) fun y17 => (
    ke (y17.1, ()))))))))
noncomputable def a39 : Go' ((Int × Unit)) := fun y K => K .ret (fSt { tmps := V :: V :: .sc (.int .i64) :: pv 142 [], mem := [] } [.int] y)
noncomputable def V8 (N : Nat) : LT := upd (V9 N) 8000015 (F5 a40 (w9 N) a39)
theorem a4a (N : Nat) : OkAll p_ref21_Check_E v0 N (V8 N) (x9 i1) :=
 a67 (k := 15) (a := H4 8000015 i1) (b := z0 8000015 i1) (a4c N) (by kernel_rfl) (fun x => by kernel_rfl) (fun β x K => by kernel_rfl)
noncomputable def a4Z : Shape := mkS { tmps := V :: .sc (.ptr 0 0 false) :: V :: .sc (.int .i64) :: .sc (.int .i64) :: pv 140 [], mem := [.live [.one (.int .i64), .one (.int .i64), .one (.int .i64), .one (.int .u32), .one (.int .u32), .one (.int .u64), .one (.int .u64), .one (.int .i64), .one (.int .i64), .one (.fr b8), .one (.fr b8), .one (.fr b8)] (.own)] } [.int, .int, .int, .int, .int, .int, .int, .int, .int, .int, .int, .xs, .xs, .xs]
noncomputable def A8 (N : Nat) (β : Type) (x : W12) (ke : ((Int × Unit)) → Option β) : Option β :=
 if (x.1 = (1:Int)) then
  w9 N _ (x.1, (68:Int), x.2.2.1, x.2.2.2.1, x.2.2.2.2.1, x.2.2.2.2.2.1, x.2.2.2.2.2.2.1, x.2.2.2.2.2.2.2.1, x.2.2.2.2.2.2.2.2.1, x.2.2.2.2.2.2.2.2.2.1, x.2.2.2.2.2.2.2.2.2.2.1, x.2.2.2.2.2.2.2.2.2.2.2.1, x.2.2.2.2.2.2.2.2.2.2.2.2.1, x.2.2.2.2.2.2.2.2.2.2.2.2.2.1, ()) fun y18 => (
  ke (y18.1, ()))
 else
  w9 N _ (x.1, x.2.1, x.2.2.1, x.2.2.2.1, x.2.2.2.2.1, x.2.2.2.2.2.1, x.2.2.2.2.2.2.1, x.2.2.2.2.2.2.2.1, x.2.2.2.2.2.2.2.2.1, x.2.2.2.2.2.2.2.2.2.1, x.2.2.2.2.2.2.2.2.2.2.1, x.2.2.2.2.2.2.2.2.2.2.2.1, x.2.2.2.2.2.2.2.2.2.2.2.2.1, x.2.2.2.2.2.2.2.2.2.2.2.2.2.1, ()) fun y19 => (
  ke (y19.1, ()))
noncomputable def a37 : Go' ((Int × Unit)) := fun y K => K .ret (fSt { tmps := V :: V :: .sc (.int .i64) :: pv 142 [], mem := [] } [.int] y)
noncomputable def V7 (N : Nat) : LT := upd (V8 N) 8000013 (F5 a4Z (A8 N) a37)
theorem a38 (N : Nat) : OkAll p_ref21_Check_E v0 N (V7 N) (x9 i1) :=
 a67 (k := 13) (a := H4 8000013 i1) (b := z0 8000013 i1) (a4a N) (by kernel_rfl) (fun x => by kernel_rfl) (fun β x K => by kernel_rfl)
noncomputable def a4Y : Shape := mkS { tmps := V :: .sc (.ptr 0 0 false) :: V :: .sc (.int .i64) :: pv 141 [], mem := [.live [.one (.int .i64), .one (.int .i64), .one (.int .i64), .one (.int .u32), .one (.int .u32), .one (.int .u64), .one (.int .u64), .one (.int .i64), .one (.int .i64), .one (.fr b8), .one (.fr b8), .one (.fr b8)] (.own)] } [.int, .int, .int, .int, .int, .int, .int, .int, .int, .int, .xs, .xs, .xs]
noncomputable def o6 (N : Nat) (β : Type) (x : W11) (ke : ((Int × Unit)) → Option β) : Option β :=
 A8 N _ (x.1, (1024:Int), x.2.1, x.2.2.1, x.2.2.2.1, x.2.2.2.2.1, x.2.2.2.2.2.1, x.2.2.2.2.2.2.1, x.2.2.2.2.2.2.2.1, x.2.2.2.2.2.2.2.2.1, x.2.2.2.2.2.2.2.2.2.1, x.2.2.2.2.2.2.2.2.2.2.1, x.2.2.2.2.2.2.2.2.2.2.2.1, x.2.2.2.2.2.2.2.2.2.2.2.2.1, ()) fun y20 => (
 ke (y20.1, ()))
noncomputable def a35 : Go' ((Int × Unit)) := fun y K => K .ret (fSt { tmps := V :: V :: .sc (.int .i64) :: pv 142 [], mem := [] } [.int] y)
noncomputable def V6 (N : Nat) : LT := upd (V7 N) 8000012 (F5 a4Y (o6 N) a35)
theorem a36 (N : Nat) : OkAll p_ref21_Check_E v0 N (V6 N) (x9 i1) :=
 a67 (k := 12) (a := H4 8000012 i1) (b := z0 8000012 i1) (a38 N) (by kernel_rfl) (fun x => by kernel_rfl) (fun β x K => by kernel_rfl)
noncomputable def a4X : Shape := mkS { tmps := V :: .sc (.ptr 0 0 false) :: V :: .sc (.int .i64) :: pv 141 [], mem := [.live [.one (.int .i64), .one (.int .i64), .one (.int .i64), .one (.int .u32), .one (.int .u32), .one (.int .u64), .one (.int .u64), .one (.int .i64), .one (.int .i64), .one (.fr b8), .one (.fr b8), .one (.fr b8)] (.own)] } [.int, .int, .int, .int, .int, .int, .int, .int, .int, .int, .xs, .xs, .xs]
noncomputable def o5 (N : Nat) (β : Type) (x : W11) (ke : ((Int × Unit)) → Option β) : Option β :=
 (l5 (x.1, (112:Int), ())).bind fun r8 => (
 if (¬ (r8 = true)) then
  if (x.2.2.2.2.2.2.2.2.1 ≠ (0:Int)) then
   ke ((210:Int), ())
  else
   (l5 (x.1, (112:Int), ())).bind fun r9 => (
   if (r9 = true) then
    if (x.2.2.2.2.2.2.2.2.1 < (0:Int)) then
     ke ((210:Int), ())
    else
     if (x.2.2.2.2.2.2.2.2.1 ≥ x.2.2.2.2.2.2.2.2.2.1) then
      ke ((210:Int), ())
     else
      o6 N _ (x.1, x.2.1, x.2.2.1, x.2.2.2.1, x.2.2.2.2.1, x.2.2.2.2.2.1, x.2.2.2.2.2.2.1, x.2.2.2.2.2.2.2.1, x.2.2.2.2.2.2.2.2.1, x.2.2.2.2.2.2.2.2.2.1, x.2.2.2.2.2.2.2.2.2.2.1, x.2.2.2.2.2.2.2.2.2.2.2.1, x.2.2.2.2.2.2.2.2.2.2.2.2.1, ()) fun y21 => (
      ke (y21.1, ()))
   else
    o6 N _ (x.1, x.2.1, x.2.2.1, x.2.2.2.1, x.2.2.2.2.1, x.2.2.2.2.2.1, x.2.2.2.2.2.2.1, x.2.2.2.2.2.2.2.1, x.2.2.2.2.2.2.2.2.1, x.2.2.2.2.2.2.2.2.2.1, x.2.2.2.2.2.2.2.2.2.2.1, x.2.2.2.2.2.2.2.2.2.2.2.1, x.2.2.2.2.2.2.2.2.2.2.2.2.1, ()) fun y22 => (
    ke (y22.1, ())))
 else
  (l5 (x.1, (112:Int), ())).bind fun r23 => (
  if (r23 = true) then
   if (x.2.2.2.2.2.2.2.2.1 < (0:Int)) then
    ke ((210:Int), ())
   else
    if (x.2.2.2.2.2.2.2.2.1 ≥ x.2.2.2.2.2.2.2.2.2.1) then
     ke ((210:Int), ())
    else
     o6 N _ (x.1, x.2.1, x.2.2.1, x.2.2.2.1, x.2.2.2.2.1, x.2.2.2.2.2.1, x.2.2.2.2.2.2.1, x.2.2.2.2.2.2.2.1, x.2.2.2.2.2.2.2.2.1, x.2.2.2.2.2.2.2.2.2.1, x.2.2.2.2.2.2.2.2.2.2.1, x.2.2.2.2.2.2.2.2.2.2.2.1, x.2.2.2.2.2.2.2.2.2.2.2.2.1, ()) fun y24 => (
     ke (y24.1, ()))
  else
   o6 N _ (x.1, x.2.1, x.2.2.1, x.2.2.2.1, x.2.2.2.2.1, x.2.2.2.2.2.1, x.2.2.2.2.2.2.1, x.2.2.2.2.2.2.2.1, x.2.2.2.2.2.2.2.2.1, x.2.2.2.2.2.2.2.2.2.1, x.2.2.2.2.2.2.2.2.2.2.1, x.2.2.2.2.2.2.2.2.2.2.2.1, x.2.2.2.2.2.2.2.2.2.2.2.2.1, ()) fun y25 => (
   ke (y25.1, ()))))
noncomputable def a33 : Go' ((Int × Unit)) := fun y K => K .ret (fSt { tmps := V :: V :: .sc (.int .i64) :: pv 142 [], mem := [] } [.int] y)
noncomputable def V5 (N : Nat) : LT := upd (V6 N) 8000010 (F5 a4X (o5 N) a33)
theorem a34 (N : Nat) : OkAll p_ref21_Check_E v0 N (V5 N) (x9 i1) :=
 a67 (k := 10) (a := H4 8000010 i1) (b := z0 8000010 i1) (a36 N) (by kernel_rfl) (fun x => by kernel_rfl) (fun β x K => by kernel_rfl)
noncomputable def a5Z : Shape := mkS { tmps := V :: .sc (.ptr 0 0 false) :: V :: .sc (.int .i64) :: pv 141 [], mem := [.live [.one (.int .i64), .one (.int .i64), .one (.int .i64), .one (.int .u32), .one (.int .u32), .one (.int .u64), .one (.int .u64), .one (.int .i64), .one (.int .i64), .one (.fr b8), .one (.fr b8), .one (.fr b8)] (.own)] } [.int, .int, .int, .int, .int, .int, .int, .int, .int, .int, .xs, .xs, .xs]
noncomputable def i9 (N : Nat) (β : Type) (x : W11) (ke : ((Int × Unit)) → Option β) : Option β :=
 (l5 (x.1, (110:Int), ())).bind fun r6 => (
 if (¬ (r6 = true)) then
  if (x.2.2.2.2.2.2.2.2.2.1 ≠ (0:Int)) then
   ke ((210:Int), ())
  else
   (l5 (x.1, (110:Int), ())).bind fun r7 => (
   if (r7 = true) then
    if (x.2.2.2.2.2.2.2.2.2.1 < (1:Int)) then
     ke ((210:Int), ())
    else
     if (x.2.2.2.2.2.2.2.2.2.1 > (256:Int)) then
      ke ((210:Int), ())
     else
      o5 N _ (x.1, x.2.1, x.2.2.1, x.2.2.2.1, x.2.2.2.2.1, x.2.2.2.2.2.1, x.2.2.2.2.2.2.1, x.2.2.2.2.2.2.2.1, x.2.2.2.2.2.2.2.2.1, x.2.2.2.2.2.2.2.2.2.1, x.2.2.2.2.2.2.2.2.2.2.1, x.2.2.2.2.2.2.2.2.2.2.2.1, x.2.2.2.2.2.2.2.2.2.2.2.2.1, ()) fun y26 => (
      ke (y26.1, ()))
   else
    o5 N _ (x.1, x.2.1, x.2.2.1, x.2.2.2.1, x.2.2.2.2.1, x.2.2.2.2.2.1, x.2.2.2.2.2.2.1, x.2.2.2.2.2.2.2.1, x.2.2.2.2.2.2.2.2.1, x.2.2.2.2.2.2.2.2.2.1, x.2.2.2.2.2.2.2.2.2.2.1, x.2.2.2.2.2.2.2.2.2.2.2.1, x.2.2.2.2.2.2.2.2.2.2.2.2.1, ()) fun y27 => (
    ke (y27.1, ())))
 else
  (l5 (x.1, (110:Int), ())).bind fun r28 => (
  if (r28 = true) then
   if (x.2.2.2.2.2.2.2.2.2.1 < (1:Int)) then
    ke ((210:Int), ())
   else
    if (x.2.2.2.2.2.2.2.2.2.1 > (256:Int)) then
     ke ((210:Int), ())
    else
     o5 N _ (x.1, x.2.1, x.2.2.1, x.2.2.2.1, x.2.2.2.2.1, x.2.2.2.2.2.1, x.2.2.2.2.2.2.1, x.2.2.2.2.2.2.2.1, x.2.2.2.2.2.2.2.2.1, x.2.2.2.2.2.2.2.2.2.1, x.2.2.2.2.2.2.2.2.2.2.1, x.2.2.2.2.2.2.2.2.2.2.2.1, x.2.2.2.2.2.2.2.2.2.2.2.2.1, ()) fun y29 => (
     ke (y29.1, ()))
  else
   o5 N _ (x.1, x.2.1, x.2.2.1, x.2.2.2.1, x.2.2.2.2.1, x.2.2.2.2.2.1, x.2.2.2.2.2.2.1, x.2.2.2.2.2.2.2.1, x.2.2.2.2.2.2.2.2.1, x.2.2.2.2.2.2.2.2.2.1, x.2.2.2.2.2.2.2.2.2.2.1, x.2.2.2.2.2.2.2.2.2.2.2.1, x.2.2.2.2.2.2.2.2.2.2.2.2.1, ()) fun y30 => (
   ke (y30.1, ()))))
noncomputable def a44 : Go' ((Int × Unit)) := fun y K => K .ret (fSt { tmps := V :: V :: .sc (.int .i64) :: pv 142 [], mem := [] } [.int] y)
noncomputable def a0v (N : Nat) : LT := upd (V5 N) 8000008 (F5 a5Z (i9 N) a44)
theorem a45 (N : Nat) : OkAll p_ref21_Check_E v0 N (a0v N) (x9 i1) :=
 a67 (k := 8) (a := H4 8000008 i1) (b := z0 8000008 i1) (a34 N) (by kernel_rfl) (fun x => by kernel_rfl) (fun β x K => by kernel_rfl)
noncomputable def a5Y : Shape := mkS { tmps := V :: .sc (.ptr 0 0 false) :: V :: .sc (.int .i64) :: pv 141 [], mem := [.live [.one (.int .i64), .one (.int .i64), .one (.int .i64), .one (.int .u32), .one (.int .u32), .one (.int .u64), .one (.int .u64), .one (.int .i64), .one (.int .i64), .one (.fr b8), .one (.fr b8), .one (.fr b8)] (.own)] } [.int, .int, .int, .int, .int, .int, .int, .int, .int, .int, .xs, .xs, .xs]
noncomputable def C3 (N : Nat) (β : Type) (x : W11) (ke : ((Int × Unit)) → Option β) : Option β :=
 (l5 (x.1, (107:Int), ())).bind fun r2 => (
 if (¬ (r2 = true)) then
  if (x.2.2.2.2.2.1 ≠ (0:Int)) then
   ke ((210:Int), ())
  else
   (l5 (x.1, (114:Int), ())).bind fun r3 => (
   if (¬ (r3 = true)) then
    if ((x.2.2.2.2.2.2.1 :: (x.2.2.2.2.2.2.2.1 :: [])) ≠ (List.replicate 2 0)) then
     ke ((210:Int), ())
    else
     (l5 (x.1, (114:Int), ())).bind fun r4 => (
     if (r4 = true) then
      (I3 ((x.2.2.2.2.2.2.1, x.2.2.2.2.2.2.2.1, ()), ())).bind fun r5 => (
      if (¬ (r5 = true)) then
       ke ((210:Int), ())
      else
       i9 N _ (x.1, x.2.1, x.2.2.1, x.2.2.2.1, x.2.2.2.2.1, x.2.2.2.2.2.1, x.2.2.2.2.2.2.1, x.2.2.2.2.2.2.2.1, x.2.2.2.2.2.2.2.2.1, x.2.2.2.2.2.2.2.2.2.1, x.2.2.2.2.2.2.2.2.2.2.1, x.2.2.2.2.2.2.2.2.2.2.2.1, x.2.2.2.2.2.2.2.2.2.2.2.2.1, ()) fun y31 => (
       ke (y31.1, ())))
     else
      i9 N _ (x.1, x.2.1, x.2.2.1, x.2.2.2.1, x.2.2.2.2.1, x.2.2.2.2.2.1, x.2.2.2.2.2.2.1, x.2.2.2.2.2.2.2.1, x.2.2.2.2.2.2.2.2.1, x.2.2.2.2.2.2.2.2.2.1, x.2.2.2.2.2.2.2.2.2.2.1, x.2.2.2.2.2.2.2.2.2.2.2.1, x.2.2.2.2.2.2.2.2.2.2.2.2.1, ()) fun y32 => (
      ke (y32.1, ())))
   else
    (l5 (x.1, (114:Int), ())).bind fun r33 => (
    if (r33 = true) then
     (I3 ((x.2.2.2.2.2.2.1, x.2.2.2.2.2.2.2.1, ()), ())).bind fun r34 => (
     if (¬ (r34 = true)) then
      ke ((210:Int), ())
     else
      i9 N _ (x.1, x.2.1, x.2.2.1, x.2.2.2.1, x.2.2.2.2.1, x.2.2.2.2.2.1, x.2.2.2.2.2.2.1, x.2.2.2.2.2.2.2.1, x.2.2.2.2.2.2.2.2.1, x.2.2.2.2.2.2.2.2.2.1, x.2.2.2.2.2.2.2.2.2.2.1, x.2.2.2.2.2.2.2.2.2.2.2.1, x.2.2.2.2.2.2.2.2.2.2.2.2.1, ()) fun y35 => (
      ke (y35.1, ())))
    else
     i9 N _ (x.1, x.2.1, x.2.2.1, x.2.2.2.1, x.2.2.2.2.1, x.2.2.2.2.2.1, x.2.2.2.2.2.2.1, x.2.2.2.2.2.2.2.1, x.2.2.2.2.2.2.2.2.1, x.2.2.2.2.2.2.2.2.2.1, x.2.2.2.2.2.2.2.2.2.2.1, x.2.2.2.2.2.2.2.2.2.2.2.1, x.2.2.2.2.2.2.2.2.2.2.2.2.1, ()) fun y36 => (
     ke (y36.1, ()))))
 else
  (l5 (x.1, (114:Int), ())).bind fun r37 => (
  if (¬ (r37 = true)) then
   if ((x.2.2.2.2.2.2.1 :: (x.2.2.2.2.2.2.2.1 :: [])) ≠ (List.replicate 2 0)) then
    ke ((210:Int), ())
   else
    (l5 (x.1, (114:Int), ())).bind fun r38 => (
    if (r38 = true) then
     (I3 ((x.2.2.2.2.2.2.1, x.2.2.2.2.2.2.2.1, ()), ())).bind fun r39 => (
     if (¬ (r39 = true)) then
      ke ((210:Int), ())
     else
      i9 N _ (x.1, x.2.1, x.2.2.1, x.2.2.2.1, x.2.2.2.2.1, x.2.2.2.2.2.1, x.2.2.2.2.2.2.1, x.2.2.2.2.2.2.2.1, x.2.2.2.2.2.2.2.2.1, x.2.2.2.2.2.2.2.2.2.1, x.2.2.2.2.2.2.2.2.2.2.1, x.2.2.2.2.2.2.2.2.2.2.2.1, x.2.2.2.2.2.2.2.2.2.2.2.2.1, ()) fun y40 => (
      ke (y40.1, ())))
    else
     i9 N _ (x.1, x.2.1, x.2.2.1, x.2.2.2.1, x.2.2.2.2.1, x.2.2.2.2.2.1, x.2.2.2.2.2.2.1, x.2.2.2.2.2.2.2.1, x.2.2.2.2.2.2.2.2.1, x.2.2.2.2.2.2.2.2.2.1, x.2.2.2.2.2.2.2.2.2.2.1, x.2.2.2.2.2.2.2.2.2.2.2.1, x.2.2.2.2.2.2.2.2.2.2.2.2.1, ()) fun y41 => (
     ke (y41.1, ())))
  else
   (l5 (x.1, (114:Int), ())).bind fun r42 => (
   if (r42 = true) then
    (I3 ((x.2.2.2.2.2.2.1, x.2.2.2.2.2.2.2.1, ()), ())).bind fun r43 => (
    if (¬ (r43 = true)) then
     ke ((210:Int), ())
    else
     i9 N _ (x.1, x.2.1, x.2.2.1, x.2.2.2.1, x.2.2.2.2.1, x.2.2.2.2.2.1, x.2.2.2.2.2.2.1, x.2.2.2.2.2.2.2.1, x.2.2.2.2.2.2.2.2.1, x.2.2.2.2.2.2.2.2.2.1, x.2.2.2.2.2.2.2.2.2.2.1, x.2.2.2.2.2.2.2.2.2.2.2.1, x.2.2.2.2.2.2.2.2.2.2.2.2.1, ()) fun y44 => (
     ke (y44.1, ())))
   else
    i9 N _ (x.1, x.2.1, x.2.2.1, x.2.2.2.1, x.2.2.2.2.1, x.2.2.2.2.2.1, x.2.2.2.2.2.2.1, x.2.2.2.2.2.2.2.1, x.2.2.2.2.2.2.2.2.1, x.2.2.2.2.2.2.2.2.2.1, x.2.2.2.2.2.2.2.2.2.2.1, x.2.2.2.2.2.2.2.2.2.2.2.1, x.2.2.2.2.2.2.2.2.2.2.2.2.1, ()) fun y45 => (
    ke (y45.1, ())))))
noncomputable def a42 : Go' ((Int × Unit)) := fun y K => K .ret (fSt { tmps := V :: V :: .sc (.int .i64) :: pv 142 [], mem := [] } [.int] y)
noncomputable def a0u (N : Nat) : LT := upd (a0v N) 8000006 (F5 a5Y (C3 N) a42)
theorem a43 (N : Nat) : OkAll p_ref21_Check_E v0 N (a0u N) (x9 i1) :=
 a67 (k := 6) (a := H4 8000006 i1) (b := z0 8000006 i1) (a45 N) (by kernel_rfl) (fun x => by kernel_rfl) (fun β x K => by kernel_rfl)
abbrev B5 : List Kd := [.cat [.int .i64, .int .i64, .int .i64, .int .u32, .int .u32, .int .u64, .int .u64, .int .i64, .int .i64, .sl b8, .sl b8, .sl b8]]
abbrev R3 : List Kd := [.int .i64]
noncomputable def K9 (N : Nat) (x : (Int × Int × Int × Int × Int × Int × Int × Int × Int × List Int × List Int × List Int × Unit) × Unit) : Option (Int) :=
 (O6 (x.1.1, ())).bind fun r1 => (
 if (r1 = (⟨#[]⟩ : ByteArray)) then
  some (211:Int)
 else
  if (x.1.2.1 < (0:Int)) then
   some (210:Int)
  else
   if (x.1.2.1 > (15:Int)) then
    some (210:Int)
   else
    if (x.1.2.2.1 < (0:Int)) then
     some (210:Int)
    else
     if (x.1.2.2.1 > (15:Int)) then
      some (210:Int)
     else
      if (x.1.2.1 = x.1.2.2.1) then
       some (210:Int)
      else
       C3 N _ (x.1.1, x.1.1, x.1.2.1, x.1.2.2.1, x.1.2.2.2.1, x.1.2.2.2.2.1, x.1.2.2.2.2.2.1, x.1.2.2.2.2.2.2.1, x.1.2.2.2.2.2.2.2.1, x.1.2.2.2.2.2.2.2.2.1, x.1.2.2.2.2.2.2.2.2.2.1, x.1.2.2.2.2.2.2.2.2.2.2.1, x.1.2.2.2.2.2.2.2.2.2.2.2.1, ()) fun y46 => (
       some y46.1))
theorem a60 (e0 : i0 Try.prog 15 O2) (e1 : i0 Try.prog 38 a4B) (e2 : i0 Try.prog 49 a4z) (e3 : i0 Try.prog 50 a6h) (e4 : i0 Try.prog 51 a0B) : p_ref21_Check_E.Ok Try.prog := AE.ofQ_ok (all_cons X9 (all_cons a2k (all_cons I7 (all_cons a00 (all_cons v6 (all_cons N5 c6)))))) (all_cons ⟨e0, a05⟩ (all_cons ⟨e1, a7H⟩ (all_cons ⟨e2, a7F⟩ (all_cons ⟨e3, a8I⟩ (all_cons ⟨e4, a4I⟩ c6))))) (all_cons A0 c6)
theorem a74 (hE : p_ref21_Check_E.Ok Try.prog) {g : Ds B5 → Option (Rs [.int .i64])} (hg : ∀ x r, g x = some r → ∃ N, K9 N x = some r) : i0 Try.prog 26 ⟨B5, [.int .i64], g⟩ :=
 p8 (E := p_ref21_Check_E) (H := v0) (L := fun N => a0u N) (c := i1) (ks := B5) (rs := R3) (F := K9) hE mix Try.func26 (by kernel_rfl) (fun N => a43 N) (fun _ _ => by kernel_rfl) hg
end Go.Ax.TryP
set_option linter.unusedVariables false
set_option linter.unusedSimpArgs false
namespace Go.Ax.TryP
open Go.Proofs
theorem b4M : ∀ x r, I3 x = some r → ∃ N, V4 N x = some r := by
 refine j9 (ks := G8) (rs := a0R) fun x hw hq => ⟨0, ?_⟩
 obtain ⟨⟨(lo : Int), (hi : Int), v⟩, u⟩ := x
 show V4 0 ((lo, hi, v), u) = some (b4x lo hi)
 unfold V4 b4x
 dsimp only
 by_cases h1 : lo < hi
 ·rw [if_pos h1]
  exact congrArg some (decide_eq_decide.2 (by omega))
 ·rw [if_neg h1]
  exact congrArg some (decide_eq_false (by omega)).symm
theorem c02 {lo hi : Int} (h1 : 0 ≤ lo ∧ lo ≤ 18446744073709551615) (h2 : 0 ≤ hi ∧ hi ≤ 18446744073709551615) : I3 ((lo, hi, ()), ()) = some (b4x lo hi) :=
 j6 (ks := G8) (rs := a0R) (x := ((lo, hi, ()), ())) ⟨⟨u5.2 h1, u5.2 h2, trivial⟩, trivial⟩ trivial
theorem b6F : ∀ x r, S7 x = some r → ∃ N, a1z N x = some r := by
 refine j9 (ks := L0) (rs := a2a) fun x hw hq => ⟨0, ?_⟩
 obtain ⟨(is : Bool), (b : List Int), (m : Int), u⟩ := x
 show a1z 0 (is, b, m, u) = some (Y9 is b.length m)
 unfold a1z Y9
 dsimp only
 cases is with
 | false =>
  rw [if_neg (show ¬ (false = true) by simp), if_pos (by simp), if_neg (show ¬ (false = true) by simp)]
  exact congrArg some (decide_eq_decide.2 (by omega))
 | true =>
  rw [if_pos rfl, if_pos rfl]
  by_cases h : (b.length : Int) ≥ 1
  ·rw [if_pos h]
   by_cases h2 : (b.length : Int) ≤ m
   ·rw [if_pos h2, decide_eq_true (by omega)]
   ·rw [if_neg h2, if_neg (by simp), decide_eq_false (by omega)]
  ·rw [if_neg h, if_neg (by simp), decide_eq_false (by omega)]
theorem c0h {is : Bool} {b : List Int} {m : Int} (hb : b.length ≤ maxLen ∧ bytes b) (hm : -9223372036854775808 ≤ m ∧ m ≤ 9223372036854775807) : S7 (is, b, m, ()) = some (Y9 is b.length m) :=
 j6 (ks := L0) (rs := a2a) (x := (is, b, m, ())) ⟨trivial, Q2.2 hb, s0.2 hm, trivial⟩ trivial
end Go.Ax.TryP
set_option linter.unusedVariables false
set_option linter.unusedSimpArgs false
namespace Go.Ax.TryP
open Go.Proofs
def c1T (c : Ms) : Bool := if c.1 = 4 then a7K c.2.2.2.2.2.2.2.2.1 c.2.2.2.2.2.2.2.2.2.1 else true
def c0V (c : Ms) (m : Int) : Bool := Y9 (a2r c.1 100) c.2.2.2.2.2.2.2.2.2.1.length m && (Y9 (a2r c.1 99) c.2.2.2.2.2.2.2.2.2.2.1.length 6446 && (Y9 (a2r c.1 115) c.2.2.2.2.2.2.2.2.2.2.2.1.length 3309 && c1T c))
def b9r (c : Ms) : Bool := if a2r c.1 112 = true then decide (0 ≤ c.2.2.2.2.2.2.2.1 ∧ c.2.2.2.2.2.2.2.1 < c.2.2.2.2.2.2.2.2.1) else decide (c.2.2.2.2.2.2.2.1 = 0)
def b5V (c : Ms) : Bool := if a2r c.1 110 = true then decide (1 ≤ c.2.2.2.2.2.2.2.2.1 ∧ c.2.2.2.2.2.2.2.2.1 ≤ 256) else decide (c.2.2.2.2.2.2.2.2.1 = 0)
def c1S (c : Ms) : Bool := b9r c && c0V c (a5t c.1)
def ok8 (c : Ms) : Bool := b5V c && c1S c
def ok6 (c : Ms) : Bool := a3y c && ok8 c
def erS (b : Bool) : Int := if b = true then 0 else 210
theorem s17 {c : Ms} (h : Y3 c) (hp : 0 ≤ c.2.2.2.2.2.2.2.2.1 ∧ c.2.2.2.2.2.2.2.2.1 ≤ 256) {β : Type} (ke : (Int × Unit) → Option β) : A9 0 β (c.1, c) ke = ke (erS (c1T c), ()) := by
 unfold A9 c1T
 dsimp only
 by_cases h4 : c.1 = 4
 ·rw [if_pos h4, if_pos h4, b59 (by omega) h.2.2.2.2.2.2.2.2.2.1, Option.bind_some]
  cases a7K c.2.2.2.2.2.2.2.2.1 c.2.2.2.2.2.2.2.2.2.1 <;> rfl
 ·rw [if_neg h4, if_neg h4]
  rfl
theorem s15 {c : Ms} (h : Y3 c) (hp : 0 ≤ c.2.2.2.2.2.2.2.2.1 ∧ c.2.2.2.2.2.2.2.2.1 ≤ 256) {m : Int} (hm : -9223372036854775808 ≤ m ∧ m ≤ 9223372036854775807) {β : Type} (ke : (Int × Unit) → Option β) : w9 0 β (c.1, m, c) ke = ke (erS (c0V c m), ()) := by
 have h2 := h
 obtain ⟨h1, _, _, _, _, _, _, _, _, h10, h11, h12⟩ := h2
 unfold w9 c0V
 dsimp only
 rw [a4C h1 (by omega), Option.bind_some, b6l, c0h h10 hm, Option.bind_some]
 cases Y9 (a2r c.1 100) c.2.2.2.2.2.2.2.2.2.1.length m with
 | false => rfl
 | true =>
 rw [if_neg (by simp), a4C h1 (by omega), Option.bind_some, b6l, c0h h11 (by omega), Option.bind_some]
 cases Y9 (a2r c.1 99) c.2.2.2.2.2.2.2.2.2.2.1.length 6446 with
 | false => rfl
 | true =>
 rw [if_neg (by simp), a4C h1 (by omega), Option.bind_some, b6l, c0h h12 (by omega), Option.bind_some]
 cases Y9 (a2r c.1 115) c.2.2.2.2.2.2.2.2.2.2.2.1.length 3309 with
 | false => rfl
 | true =>
 rw [if_neg (by simp)]
 exact s17 h hp _
theorem s13 {c : Ms} (h : Y3 c) (hp : 0 ≤ c.2.2.2.2.2.2.2.2.1 ∧ c.2.2.2.2.2.2.2.2.1 ≤ 256) {β : Type} (ke : (Int × Unit) → Option β) : A8 0 β (c.1, 1024, c) ke = ke (erS (c0V c (a5t c.1)), ()) := by
 unfold A8 a5t
 dsimp only
 by_cases h1 : c.1 = 1
 ·rw [if_pos h1, if_pos h1]
  exact s15 h hp (by omega) _
 ·rw [if_neg h1, if_neg h1]
  exact s15 h hp (by omega) _
theorem s12 {c : Ms} (h : Y3 c) (hp : 0 ≤ c.2.2.2.2.2.2.2.2.1 ∧ c.2.2.2.2.2.2.2.2.1 ≤ 256) {β : Type} (ke : (Int × Unit) → Option β) : o6 0 β (c.1, c) ke = ke (erS (c0V c (a5t c.1)), ()) := by
 unfold o6
 dsimp only
 exact s13 h hp _
theorem s10 {c : Ms} (h : Y3 c) (hp : 0 ≤ c.2.2.2.2.2.2.2.2.1 ∧ c.2.2.2.2.2.2.2.2.1 ≤ 256) {β : Type} (ke : (Int × Unit) → Option β) : o5 0 β (c.1, c) ke = ke (erS (c1S c), ()) := by
 unfold o5 c1S b9r
 dsimp only
 rw [a4C h.1 (by omega)]
 simp only [Option.bind_some]
 cases a2r c.1 112 with
 | false =>
  rw [if_pos (by simp), if_neg (show ¬ (false = true) by simp)]
  by_cases h0 : c.2.2.2.2.2.2.2.1 = 0
  ·rw [if_neg (fun g => g h0), if_neg (by simp), decide_eq_true h0, Bool.true_and]
   exact s12 h hp _
  ·rw [if_pos h0, decide_eq_false h0]
   rfl
 | true =>
  rw [if_neg (by simp), if_pos rfl, if_pos rfl]
  by_cases h0 : c.2.2.2.2.2.2.2.1 < 0
  ·rw [if_pos h0, decide_eq_false (by omega)]
   rfl
  by_cases h1 : c.2.2.2.2.2.2.2.1 ≥ c.2.2.2.2.2.2.2.2.1
  ·rw [if_neg h0, if_pos h1, decide_eq_false (by omega)]
   rfl
  rw [if_neg h0, if_neg h1, decide_eq_true (by omega), Bool.true_and]
  exact s12 h hp _
theorem s8 {c : Ms} (h : Y3 c) {β : Type} (ke : (Int × Unit) → Option β) : i9 0 β (c.1, c) ke = ke (erS (ok8 c), ()) := by
 unfold i9 ok8 b5V
 dsimp only
 rw [a4C h.1 (by omega)]
 simp only [Option.bind_some]
 cases a2r c.1 110 with
 | false =>
  rw [if_pos (by simp), if_neg (show ¬ (false = true) by simp)]
  by_cases h0 : c.2.2.2.2.2.2.2.2.1 = 0
  ·rw [if_neg (fun g => g h0), if_neg (by simp), decide_eq_true h0, Bool.true_and]
   exact s10 h (by omega) _
  ·rw [if_pos h0, decide_eq_false h0]
   rfl
 | true =>
  rw [if_neg (by simp), if_pos rfl, if_pos rfl]
  by_cases h0 : c.2.2.2.2.2.2.2.2.1 < 1
  ·rw [if_pos h0, decide_eq_false (by omega)]
   rfl
  by_cases h1 : c.2.2.2.2.2.2.2.2.1 > 256
  ·rw [if_neg h0, if_pos h1, decide_eq_false (by omega)]
   rfl
  rw [if_neg h0, if_neg h1, decide_eq_true (by omega), Bool.true_and]
  exact s10 h (by omega) _
theorem c1l (k : Int) : a2r k 107 = a2r k 114 := by
 have hk : k = 1 ∨ k = 2 ∨ k = 3 ∨ k = 4 ∨ k = 5 ∨ k = 6 ∨ (k ≠ 1 ∧ k ≠ 2 ∧ k ≠ 3 ∧ k ≠ 4 ∧ k ≠ 5 ∧ k ≠ 6) := by omega
 rcases hk with rfl | rfl | rfl | rfl | rfl | rfl | ⟨g1, g2, g3, g4, g5, g6⟩
 all_goals first | decide | (unfold a2r a8h; rw [if_neg g1, if_neg g2, if_neg g3, if_neg g4, if_neg g5, if_neg g6]; rfl)
theorem s6 {c : Ms} (h : Y3 c) {β : Type} (ke : (Int × Unit) → Option β) : C3 0 β (c.1, c) ke = ke (erS (ok6 c), ()) := by
 have h2 := h
 obtain ⟨h1, _, _, _, _, h6, h7, _⟩ := h2
 unfold C3 ok6 a3y
 dsimp only
 rw [a4C h1 (by omega), a4C h1 (by omega), c02 h6 h7]
 simp only [Option.bind_some]
 rw [c1l]
 cases a2r c.1 114 with
 | false =>
  rw [if_pos (by simp), if_neg (show ¬ (false = true) by simp)]
  by_cases h0 : c.2.2.2.2.1 = 0
  ·rw [if_neg (fun g => g h0), if_pos (by simp)]
   by_cases hz : c.2.2.2.2.2.1 = 0 ∧ c.2.2.2.2.2.2.1 = 0
   ·rw [if_neg (fun g => g (a8l.2 hz)), if_neg (by simp), decide_eq_true ⟨hz.1, hz.2, h0⟩, Bool.true_and]
    exact s8 h _
   ·rw [if_pos (fun g => hz (a8l.1 g)), decide_eq_false (fun g => hz ⟨g.1, g.2.1⟩)]
    rfl
  ·rw [if_pos h0, decide_eq_false (fun g => h0 g.2.2)]
   rfl
 | true =>
  rw [if_neg (by simp), if_neg (by simp), if_pos rfl, if_pos rfl]
  cases b4x c.2.2.2.2.2.1 c.2.2.2.2.2.2.1 with
  | false => rfl
  | true =>
   rw [if_neg (by simp), Bool.true_and]
   exact s8 h _
theorem b74 (c : Ms) : R5 c = (b5V c && b9r c) := by
 unfold R5 b5V b9r
 cases a2r c.1 110 with
 | true =>
  rw [if_pos rfl]
  by_cases h : 1 ≤ c.2.2.2.2.2.2.2.2.1 ∧ c.2.2.2.2.2.2.2.2.1 ≤ 256
  ·rw [decide_eq_true h, decide_eq_true (show 0 ≤ c.2.2.2.2.2.2.2.2.1 ∧ c.2.2.2.2.2.2.2.2.1 ≤ 256 by omega), decide_eq_true (show true = decide (c.2.2.2.2.2.2.2.2.1 ≠ 0) from (decide_eq_true (by omega)).symm)]
   simp only [Bool.true_and]
  ·rw [decide_eq_false h, Bool.false_and]
   by_cases h0 : c.2.2.2.2.2.2.2.2.1 = 0
   ·rw [decide_eq_false (fun g => (of_decide_eq_true g.symm) h0), Bool.false_and]
   ·rw [decide_eq_false (show ¬ (0 ≤ c.2.2.2.2.2.2.2.2.1 ∧ c.2.2.2.2.2.2.2.2.1 ≤ 256) by omega), Bool.false_and, Bool.and_false]
 | false =>
  rw [if_neg (show ¬ (false = true) by simp)]
  by_cases h0 : c.2.2.2.2.2.2.2.2.1 = 0
  ·rw [decide_eq_true h0, decide_eq_true (show 0 ≤ c.2.2.2.2.2.2.2.2.1 ∧ c.2.2.2.2.2.2.2.2.1 ≤ 256 by omega), decide_eq_true (show false = decide (c.2.2.2.2.2.2.2.2.1 ≠ 0) from (decide_eq_false (fun g => g h0)).symm)]
   simp only [Bool.true_and]
  ·rw [decide_eq_false h0, decide_eq_false (fun g => (of_decide_eq_false g.symm) h0), Bool.false_and, Bool.false_and]
theorem b2a : ∀ x r, i3 x = some r → ∃ N, K9 N x = some r := by
 refine j9 (ks := B5) (rs := R3) fun x hw hq => ⟨0, ?_⟩
 obtain ⟨(c : Ms), u⟩ := x
 have hc : Y3 c := a4i.1 hw.1
 show K9 0 (c, u) = some (A4 c)
 unfold K9 A4
 dsimp only
 rw [b5s hc.1, Option.bind_some]
 by_cases hn : a5v c.1 = ⟨#[]⟩
 ·rw [if_pos hn, if_pos hn]
 rw [if_neg hn, if_neg hn]
 have no : (¬ (b5A c.2.1 = true) ∨ ¬ (b5A c.2.2.1 = true) ∨ c.2.1 = c.2.2.1) → okS c = false := by
  intro h
  rw [Bool.eq_false_iff]
  intro g
  unfold okS at g
  simp only [Bool.and_eq_true, decide_eq_true_eq] at g
  obtain ⟨g1, g2, g3, _⟩ := g
  rcases h with h | h | h
  ·exact h g1
  ·exact h g2
  ·exact g3 h
 have dv : ∀ n : Int, (n < 0 ∨ n > 15) → ¬ (b5A n = true) := fun n h g => by
  unfold b5A at g
  have := of_decide_eq_true g
  omega
 by_cases a1 : c.2.1 < 0
 ·rw [if_pos a1, no (.inl (dv _ (.inl a1)))]; rfl
 by_cases a2 : c.2.1 > 15
 ·rw [if_neg a1, if_pos a2, no (.inl (dv _ (.inr a2)))]; rfl
 by_cases a3 : c.2.2.1 < 0
 ·rw [if_neg a1, if_neg a2, if_pos a3, no (.inr (.inl (dv _ (.inl a3))))]; rfl
 by_cases a4 : c.2.2.1 > 15
 ·rw [if_neg a1, if_neg a2, if_neg a3, if_pos a4, no (.inr (.inl (dv _ (.inr a4))))]; rfl
 by_cases a5 : c.2.1 = c.2.2.1
 ·rw [if_neg a1, if_neg a2, if_neg a3, if_neg a4, if_pos a5, no (.inr (.inr a5))]; rfl
 rw [if_neg a1, if_neg a2, if_neg a3, if_neg a4, if_neg a5]
 refine (s6 hc _).trans ?_
 have : okS c = ok6 c := by
  unfold okS ok6 ok8 c1S c0V c1T
  rw [b74, show b5A c.2.1 = true from decide_eq_true (by omega), show b5A c.2.2.1 = true from decide_eq_true (by omega), decide_eq_true a5]
  simp only [Bool.true_and, Bool.and_assoc]
 rw [this]
 rfl
theorem T3 {c : Ms} (h : Y3 c) : i3 (c, ()) = some (A4 c) := j6 (ks := B5) (rs := R3) (x := (c, ())) ⟨a4i.2 h, trivial⟩ trivial
end Go.Ax.TryP
set_option linter.unusedVariables false
set_option linter.unusedSimpArgs false
namespace Go.Ax.TryP
open Go.Proofs
structure Rs' (fr to tid key lo hi pt pts : Int) (d ce sg : List Int) : Prop where
 b4 : M1 (IntKind.u64.wrap tid, 4, ()) = some (L9 tid 4)
 b5 : M1 (IntKind.u64.wrap key, 4, ()) = some (L9 key 4)
 b6 : M1 (lo, 8, ()) = some (L9 lo 8)
 b7 : M1 (hi, 8, ()) = some (L9 hi 8)
 b8 : M1 (IntKind.u64.wrap pt, 2, ()) = some (L9 pt 2)
 b9 : M1 (IntKind.u64.wrap pts, 2, ()) = some (L9 pts 2)
 t10 : a22 (d, ()) = some (L9 (d.length : Int) 2 ++ d)
 t11 : a22 (ce, ()) = some (L9 (ce.length : Int) 2 ++ ce)
 t12 : a22 (sg, ()) = some (L9 (sg.length : Int) 2 ++ sg)
 l10 : d.length ≤ 60000
 l11 : ce.length ≤ 60000
 l12 : sg.length ≤ 60000
 y10 : bytes d
 y11 : bytes ce
 y12 : bytes sg
end Go.Ax.TryP
namespace Go.Ax.TryP
open Go.Proofs
noncomputable abbrev O1 : Sig := ⟨[.sls b8], [.sl b8], C7⟩
theorem a7r : i0 Try.prog 31 O1 := a9t (a73) b3A
theorem b4X : i0 Try.prog 49 a4z := b0w (a9u) b4M
theorem b3X : i0 Try.prog 41 a2R := a9q (a71) b3z
theorem b6Q : i0 Try.prog 50 a6h := b1Z (b0D) b6F
theorem b4Z : i0 Try.prog 38 a4B := b0C (a9y) b4O
theorem b0M : i0 Try.prog 51 a0B := a61 (a50 b3X) b0H
noncomputable abbrev a1G : Sig := ⟨[.cat [.int .i64, .int .i64, .int .i64, .int .u32, .int .u32, .int .u64, .int .u64, .int .i64, .int .i64, .sl b8, .sl b8, .sl b8]], [.int .i64], i3⟩
theorem b2j : i0 Try.prog 26 a1G := a74 (a60 a7s b4Z b4X b6Q b0M) b2a
end Go.Ax.TryP
