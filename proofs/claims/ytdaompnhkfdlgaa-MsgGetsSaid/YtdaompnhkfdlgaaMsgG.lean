/- A part of the proof: MsgP5, MsgQ18, MsgW5. -/
import Derived.Test.YtdaompnhkfdlgaaMsgF
import Derived.Test.YtdaompnhkfdlgaaMsgD
set_option linter.unusedVariables false
namespace Go.Ax.TryP
open Go.Proofs
noncomputable abbrev a8o : Sig := ⟨[.sl b8], [.cat [.int .i64, .int .i64, .int .i64, .int .u32, .int .u32, .int .u64, .int .u64, .int .i64, .int .i64, .sl b8, .sl b8, .sl b8], .int .i64], a5m⟩
noncomputable abbrev a4A : Sig := ⟨[.fsl b8], [.cat [.int .i64, .int .i64, .int .i64, .int .u32, .int .u32, .int .u64, .int .u64, .int .i64, .int .i64, .sl b8, .sl b8, .sl b8], .int .i64], a1M⟩
noncomputable def p_law21_MsgGets_E : AE := AE.of [(5, ty5), (29, ty29), (31, ty31), (42, ty42)] [(11, a2I), (31, O1), (32, a8o), (33, a4A), (19, A7), (28, a2S)]
noncomputable def a1g : Hints := [(9, [3, 4, 5, 6, 7, 35, 36]), (2000000, [4, 5, 6, 7]), (2000001, [3, 4, 5, 6, 7, 35, 36]), (3000000, [2])]
noncomputable def M4 : Code := (Try.f8).body.getD .skip
noncomputable def a30 : Shape := mkS { tmps := pv 3 (.sc (.vec 0 none 1) :: .sc (.ptr 1 0 false) :: .sc (.int .i64) :: .sc (.ptr 2 0 false) :: .sc (.int .i64) :: pv 27 (.sc (.int .i64) :: .sc (.int .i64) :: pv 17 [])), mem := [.live [.xs b8 none] (.own), .live [.one (.int .i64), .one (.int .i64), .one (.int .i64), .one (.int .u32), .one (.int .u32), .one (.int .u64), .one (.int .u64), .one (.int .i64), .one (.int .i64), .one (.vec 3 none 1), .one (.vec 4 none 1), .one (.vec 5 none 1)] (.own), .live [.one (.int .i64), .one (.int .i64), .one (.int .i64), .one (.int .u32), .one (.int .u32), .one (.int .u64), .one (.int .u64), .one (.int .i64), .one (.int .i64), .one (.vec 6 none 1), .one (.vec 7 none 1), .one (.vec 8 none 1)] (.own), .live [.xs b8 none] (.own), .live [.xs b8 none] (.own), .live [.xs b8 none] (.own), .live [.xs b8 none] (.own), .live [.xs b8 none] (.own), .live [.xs b8 none] (.own)] } (.nat :: .int :: .int :: .int :: .int :: .nat :: .xs :: .int :: .int :: .int :: .int :: .int :: .int :: .int :: .int :: .int :: .nat :: .nat :: .nat :: .int :: .int :: .int :: .int :: .int :: .int :: .int :: .int :: .int :: .nat :: .nat :: .nat :: .nat :: .xs :: .nat :: .xs :: .nat :: .xs :: .nat :: .xs :: .nat :: .xs :: .nat :: .xs :: [])
abbrev W26 : Type := Nat × Int × Int × Int × Int × Nat × List Int × Int × Int × Int × Int × Int × Int × Int × Int × Int × Nat × Nat × Nat × Int × Int × Int × Int × Int × Int × Int × Int × Int × Nat × Nat × Nat × Nat × List Int × Nat × List Int × Nat × List Int × Nat × List Int × Nat × List Int × Nat × List Int × Unit
abbrev W27 : Type := Int × Int × Int × Int × Int × Int × Int × Int × Int × Int × Int × Nat × Nat × Nat × Int × Int × Int × Int × Int × Int × Int × Int × Int × Nat × Nat × Nat × Nat × List Int × Nat × List Int × Nat × List Int × Nat × List Int × Nat × List Int × Nat × List Int × Unit
noncomputable def w4 (N : Nat) (β : Type) (x : W26) (kn : W26 → Option β) (ke : W27 → Option β) : Option β :=
 if (x.2.2.2.2.1 < x.2.2.2.1) then
  if 0 ≤ x.2.2.2.2.1 then (
  if x.2.2.2.2.1 < ((x.1 : Nat) : Int) then (
  if (x.2.2.2.2.1.toNat) < x.2.2.2.2.2.1 then (
  if 0 ≤ x.2.2.2.2.1 then (
  if x.2.2.2.2.1 < ((x.1 : Nat) : Int) then (
  if (x.2.2.2.2.1.toNat) < x.2.2.2.2.2.1 then (
  kn (x.1, x.2.1, x.2.2.1, x.2.2.2.1, (IntKind.i64.wrap (x.2.2.2.2.1 + (1:Int))), x.2.2.2.2.2.1, (List.set x.2.2.2.2.2.2.1 (x.2.2.2.2.1.toNat) (IntKind.u8.wrap ((List.getD x.2.2.2.2.2.2.1 (x.2.2.2.2.1.toNat) 0) + (1:Int)))), x.2.2.2.2.2.2.2.1, x.2.2.2.2.2.2.2.2.1, x.2.2.2.2.2.2.2.2.2.1, x.2.2.2.2.2.2.2.2.2.2.1, x.2.2.2.2.2.2.2.2.2.2.2.1, x.2.2.2.2.2.2.2.2.2.2.2.2.1, x.2.2.2.2.2.2.2.2.2.2.2.2.2.1, x.2.2.2.2.2.2.2.2.2.2.2.2.2.2.1, x.2.2.2.2.2.2.2.2.2.2.2.2.2.2.2.1, x.2.2.2.2.2.2.2.2.2.2.2.2.2.2.2.2.1, x.2.2.2.2.2.2.2.2.2.2.2.2.2.2.2.2.2.1, x.2.2.2.2.2.2.2.2.2.2.2.2.2.2.2.2.2.2.1, x.2.2.2.2.2.2.2.2.2.2.2.2.2.2.2.2.2.2.2.1, x.2.2.2.2.2.2.2.2.2.2.2.2.2.2.2.2.2.2.2.2.1, x.2.2.2.2.2.2.2.2.2.2.2.2.2.2.2.2.2.2.2.2.2.1, x.2.2.2.2.2.2.2.2.2.2.2.2.2.2.2.2.2.2.2.2.2.2.1, x.2.2.2.2.2.2.2.2.2.2.2.2.2.2.2.2.2.2.2.2.2.2.2.1, x.2.2.2.2.2.2.2.2.2.2.2.2.2.2.2.2.2.2.2.2.2.2.2.2.1, x.2.2.2.2.2.2.2.2.2.2.2.2.2.2.2.2.2.2.2.2.2.2.2.2.2.1, x.2.2.2.2.2.2.2.2.2.2.2.2.2.2.2.2.2.2.2.2.2.2.2.2.2.2.1, x.2.2.2.2.2.2.2.2.2.2.2.2.2.2.2.2.2.2.2.2.2.2.2.2.2.2.2.1, x.2.2.2.2.2.2.2.2.2.2.2.2.2.2.2.2.2.2.2.2.2.2.2.2.2.2.2.2.1, x.2.2.2.2.2.2.2.2.2.2.2.2.2.2.2.2.2.2.2.2.2.2.2.2.2.2.2.2.2.1, x.2.2.2.2.2.2.2.2.2.2.2.2.2.2.2.2.2.2.2.2.2.2.2.2.2.2.2.2.2.2.1, x.2.2.2.2.2.2.2.2.2.2.2.2.2.2.2.2.2.2.2.2.2.2.2.2.2.2.2.2.2.2.2.1, x.2.2.2.2.2.2.2.2.2.2.2.2.2.2.2.2.2.2.2.2.2.2.2.2.2.2.2.2.2.2.2.2.1, x.2.2.2.2.2.2.2.2.2.2.2.2.2.2.2.2.2.2.2.2.2.2.2.2.2.2.2.2.2.2.2.2.2.1, x.2.2.2.2.2.2.2.2.2.2.2.2.2.2.2.2.2.2.2.2.2.2.2.2.2.2.2.2.2.2.2.2.2.2.1, x.2.2.2.2.2.2.2.2.2.2.2.2.2.2.2.2.2.2.2.2.2.2.2.2.2.2.2.2.2.2.2.2.2.2.2.1, x.2.2.2.2.2.2.2.2.2.2.2.2.2.2.2.2.2.2.2.2.2.2.2.2.2.2.2.2.2.2.2.2.2.2.2.2.1, x.2.2.2.2.2.2.2.2.2.2.2.2.2.2.2.2.2.2.2.2.2.2.2.2.2.2.2.2.2.2.2.2.2.2.2.2.2.1, x.2.2.2.2.2.2.2.2.2.2.2.2.2.2.2.2.2.2.2.2.2.2.2.2.2.2.2.2.2.2.2.2.2.2.2.2.2.2.1, x.2.2.2.2.2.2.2.2.2.2.2.2.2.2.2.2.2.2.2.2.2.2.2.2.2.2.2.2.2.2.2.2.2.2.2.2.2.2.2.1, x.2.2.2.2.2.2.2.2.2.2.2.2.2.2.2.2.2.2.2.2.2.2.2.2.2.2.2.2.2.2.2.2.2.2.2.2.2.2.2.2.1, x.2.2.2.2.2.2.2.2.2.2.2.2.2.2.2.2.2.2.2.2.2.2.2.2.2.2.2.2.2.2.2.2.2.2.2.2.2.2.2.2.2.1, x.2.2.2.2.2.2.2.2.2.2.2.2.2.2.2.2.2.2.2.2.2.2.2.2.2.2.2.2.2.2.2.2.2.2.2.2.2.2.2.2.2.2.1, ())) else none) else none) else none) else none) else none) else none
 else
  ke (x.2.1, x.2.2.1, x.2.2.2.2.2.2.2.1, x.2.2.2.2.2.2.2.2.1, x.2.2.2.2.2.2.2.2.2.1, x.2.2.2.2.2.2.2.2.2.2.1, x.2.2.2.2.2.2.2.2.2.2.2.1, x.2.2.2.2.2.2.2.2.2.2.2.2.1, x.2.2.2.2.2.2.2.2.2.2.2.2.2.1, x.2.2.2.2.2.2.2.2.2.2.2.2.2.2.1, x.2.2.2.2.2.2.2.2.2.2.2.2.2.2.2.1, x.2.2.2.2.2.2.2.2.2.2.2.2.2.2.2.2.1, x.2.2.2.2.2.2.2.2.2.2.2.2.2.2.2.2.2.1, x.2.2.2.2.2.2.2.2.2.2.2.2.2.2.2.2.2.2.1, x.2.2.2.2.2.2.2.2.2.2.2.2.2.2.2.2.2.2.2.1, x.2.2.2.2.2.2.2.2.2.2.2.2.2.2.2.2.2.2.2.2.1, x.2.2.2.2.2.2.2.2.2.2.2.2.2.2.2.2.2.2.2.2.2.1, x.2.2.2.2.2.2.2.2.2.2.2.2.2.2.2.2.2.2.2.2.2.2.1, x.2.2.2.2.2.2.2.2.2.2.2.2.2.2.2.2.2.2.2.2.2.2.2.1, x.2.2.2.2.2.2.2.2.2.2.2.2.2.2.2.2.2.2.2.2.2.2.2.2.1, x.2.2.2.2.2.2.2.2.2.2.2.2.2.2.2.2.2.2.2.2.2.2.2.2.2.1, x.2.2.2.2.2.2.2.2.2.2.2.2.2.2.2.2.2.2.2.2.2.2.2.2.2.2.1, x.2.2.2.2.2.2.2.2.2.2.2.2.2.2.2.2.2.2.2.2.2.2.2.2.2.2.2.1, x.2.2.2.2.2.2.2.2.2.2.2.2.2.2.2.2.2.2.2.2.2.2.2.2.2.2.2.2.1, x.2.2.2.2.2.2.2.2.2.2.2.2.2.2.2.2.2.2.2.2.2.2.2.2.2.2.2.2.2.1, x.2.2.2.2.2.2.2.2.2.2.2.2.2.2.2.2.2.2.2.2.2.2.2.2.2.2.2.2.2.2.1, x.2.2.2.2.2.2.2.2.2.2.2.2.2.2.2.2.2.2.2.2.2.2.2.2.2.2.2.2.2.2.2.1, x.2.2.2.2.2.2.2.2.2.2.2.2.2.2.2.2.2.2.2.2.2.2.2.2.2.2.2.2.2.2.2.2.1, x.2.2.2.2.2.2.2.2.2.2.2.2.2.2.2.2.2.2.2.2.2.2.2.2.2.2.2.2.2.2.2.2.2.1, x.2.2.2.2.2.2.2.2.2.2.2.2.2.2.2.2.2.2.2.2.2.2.2.2.2.2.2.2.2.2.2.2.2.2.1, x.2.2.2.2.2.2.2.2.2.2.2.2.2.2.2.2.2.2.2.2.2.2.2.2.2.2.2.2.2.2.2.2.2.2.2.1, x.2.2.2.2.2.2.2.2.2.2.2.2.2.2.2.2.2.2.2.2.2.2.2.2.2.2.2.2.2.2.2.2.2.2.2.2.1, x.2.2.2.2.2.2.2.2.2.2.2.2.2.2.2.2.2.2.2.2.2.2.2.2.2.2.2.2.2.2.2.2.2.2.2.2.2.1, x.2.2.2.2.2.2.2.2.2.2.2.2.2.2.2.2.2.2.2.2.2.2.2.2.2.2.2.2.2.2.2.2.2.2.2.2.2.2.1, x.2.2.2.2.2.2.2.2.2.2.2.2.2.2.2.2.2.2.2.2.2.2.2.2.2.2.2.2.2.2.2.2.2.2.2.2.2.2.2.1, x.2.2.2.2.2.2.2.2.2.2.2.2.2.2.2.2.2.2.2.2.2.2.2.2.2.2.2.2.2.2.2.2.2.2.2.2.2.2.2.2.1, x.2.2.2.2.2.2.2.2.2.2.2.2.2.2.2.2.2.2.2.2.2.2.2.2.2.2.2.2.2.2.2.2.2.2.2.2.2.2.2.2.2.1, x.2.2.2.2.2.2.2.2.2.2.2.2.2.2.2.2.2.2.2.2.2.2.2.2.2.2.2.2.2.2.2.2.2.2.2.2.2.2.2.2.2.2.1, ())
noncomputable def a3g : Go' W27 := fun y K => K (.exit 0) (fSt { tmps := pv 4 (.sc (.ptr 0 0 false) :: .sc (.int .i64) :: .sc (.ptr 1 0 false) :: .sc (.int .i64) :: pv 46 []), mem := [.live [.one (.int .i64), .one (.int .i64), .one (.int .i64), .one (.int .u32), .one (.int .u32), .one (.int .u64), .one (.int .u64), .one (.int .i64), .one (.int .i64), .one (.vec 2 none 1), .one (.vec 3 none 1), .one (.vec 4 none 1)] (.own), .live [.one (.int .i64), .one (.int .i64), .one (.int .i64), .one (.int .u32), .one (.int .u32), .one (.int .u64), .one (.int .u64), .one (.int .i64), .one (.int .i64), .one (.vec 5 none 1), .one (.vec 6 none 1), .one (.vec 7 none 1)] (.own), .live [.xs b8 none] (.own), .live [.xs b8 none] (.own), .live [.xs b8 none] (.own), .live [.xs b8 none] (.own), .live [.xs b8 none] (.own), .live [.xs b8 none] (.own)] } (.int :: .int :: .int :: .int :: .int :: .int :: .int :: .int :: .int :: .int :: .int :: .nat :: .nat :: .nat :: .int :: .int :: .int :: .int :: .int :: .int :: .int :: .int :: .int :: .nat :: .nat :: .nat :: .nat :: .xs :: .nat :: .xs :: .nat :: .xs :: .nat :: .xs :: .nat :: .xs :: .nat :: .xs :: []) y)
noncomputable def S0 (N : Nat) : LT := upd (LT.nil) 9 (a3c a30 N (w4 N) a3g)
theorem a3h (N : Nat) : OkAll p_law21_MsgGets_E a1g N (S0 N) (x9 M4) :=
 J4 (c := L5 9 M4) (OkAll.nil) (by kernel_rfl) (fun x => by kernel_rfl) (fun β x kn ke => by kernel_rfl)
abbrev B9 : List Kd := [.sl b8]
abbrev a0i : List Kd := [.bool]
noncomputable def C9 (N : Nat) (x : List Int × Unit) : Option (Bool) :=
 (I9 (())).bind fun r1 => (
 if (¬ (r1 = true)) then
  (I9 (())).bind fun r2 => (
  some (decide (r2 = true)))
 else
  if ((((List.length x.1) : Nat) : Int) > (30000:Int)) then
   (I9 (())).bind fun r3 => (
   some (decide (r3 = true)))
  else
   (C7 ([x.1], ())).bind fun r4 => (
   (a5m (r4, ())).bind fun r5 => (
   (a1M (x.1, ())).bind fun r6 => (
   (u6 (r4, x.1, ())).bind fun r7 => (
   if (¬ (r7 = true)) then
    some false
   else
    a5p (w4 N) N ((List.length r4), r5.2, r6.2, (((List.length r4) : Nat) : Int), (0:Int), (List.length r4), r4, r5.1.1, r5.1.2.1, r5.1.2.2.1, r5.1.2.2.2.1, r5.1.2.2.2.2.1, r5.1.2.2.2.2.2.1, r5.1.2.2.2.2.2.2.1, r5.1.2.2.2.2.2.2.2.1, r5.1.2.2.2.2.2.2.2.2.1, (List.length r5.1.2.2.2.2.2.2.2.2.2.1), (List.length r5.1.2.2.2.2.2.2.2.2.2.2.1), (List.length r5.1.2.2.2.2.2.2.2.2.2.2.2.1), r6.1.1, r6.1.2.1, r6.1.2.2.1, r6.1.2.2.2.1, r6.1.2.2.2.2.1, r6.1.2.2.2.2.2.1, r6.1.2.2.2.2.2.2.1, r6.1.2.2.2.2.2.2.2.1, r6.1.2.2.2.2.2.2.2.2.1, (List.length r6.1.2.2.2.2.2.2.2.2.2.1), (List.length r6.1.2.2.2.2.2.2.2.2.2.2.1), (List.length r6.1.2.2.2.2.2.2.2.2.2.2.2.1), (List.length r5.1.2.2.2.2.2.2.2.2.2.1), r5.1.2.2.2.2.2.2.2.2.2.1, (List.length r5.1.2.2.2.2.2.2.2.2.2.2.1), r5.1.2.2.2.2.2.2.2.2.2.2.1, (List.length r5.1.2.2.2.2.2.2.2.2.2.2.2.1), r5.1.2.2.2.2.2.2.2.2.2.2.2.1, (List.length r6.1.2.2.2.2.2.2.2.2.2.1), r6.1.2.2.2.2.2.2.2.2.2.1, (List.length r6.1.2.2.2.2.2.2.2.2.2.2.1), r6.1.2.2.2.2.2.2.2.2.2.2.1, (List.length r6.1.2.2.2.2.2.2.2.2.2.2.2.1), r6.1.2.2.2.2.2.2.2.2.2.2.2.1, ()) fun y8 => (
    (a0e ((y8.2.2.1, y8.2.2.2.1, y8.2.2.2.2.1, y8.2.2.2.2.2.1, y8.2.2.2.2.2.2.1, y8.2.2.2.2.2.2.2.1, y8.2.2.2.2.2.2.2.2.1, y8.2.2.2.2.2.2.2.2.2.1, y8.2.2.2.2.2.2.2.2.2.2.1, y8.2.2.2.2.2.2.2.2.2.2.2.2.2.2.2.2.2.2.2.2.2.2.2.2.2.2.2.1, y8.2.2.2.2.2.2.2.2.2.2.2.2.2.2.2.2.2.2.2.2.2.2.2.2.2.2.2.2.2.1, y8.2.2.2.2.2.2.2.2.2.2.2.2.2.2.2.2.2.2.2.2.2.2.2.2.2.2.2.2.2.2.2.1, ()), (y8.2.2.2.2.2.2.2.2.2.2.2.2.2.2.1, y8.2.2.2.2.2.2.2.2.2.2.2.2.2.2.2.1, y8.2.2.2.2.2.2.2.2.2.2.2.2.2.2.2.2.1, y8.2.2.2.2.2.2.2.2.2.2.2.2.2.2.2.2.2.1, y8.2.2.2.2.2.2.2.2.2.2.2.2.2.2.2.2.2.2.1, y8.2.2.2.2.2.2.2.2.2.2.2.2.2.2.2.2.2.2.2.1, y8.2.2.2.2.2.2.2.2.2.2.2.2.2.2.2.2.2.2.2.2.1, y8.2.2.2.2.2.2.2.2.2.2.2.2.2.2.2.2.2.2.2.2.2.1, y8.2.2.2.2.2.2.2.2.2.2.2.2.2.2.2.2.2.2.2.2.2.2.1, y8.2.2.2.2.2.2.2.2.2.2.2.2.2.2.2.2.2.2.2.2.2.2.2.2.2.2.2.2.2.2.2.2.2.1, y8.2.2.2.2.2.2.2.2.2.2.2.2.2.2.2.2.2.2.2.2.2.2.2.2.2.2.2.2.2.2.2.2.2.2.2.1, y8.2.2.2.2.2.2.2.2.2.2.2.2.2.2.2.2.2.2.2.2.2.2.2.2.2.2.2.2.2.2.2.2.2.2.2.2.2.1, ()), ())).bind fun r9 => (
    if (r9 = true) then
     some (decide (y8.1 = y8.2.1))
    else
     some false)))))))
theorem a4T (e0 : i0 Try.prog 11 a2I) (e1 : i0 Try.prog 31 O1) (e2 : i0 Try.prog 32 a8o) (e3 : i0 Try.prog 33 a4A) (e4 : i0 Try.prog 19 A7) (e5 : i0 Try.prog 28 a2S) : p_law21_MsgGets_E.Ok Try.prog := AE.of_ok (all_cons Y0 (all_cons v6 (all_cons N5 (all_cons a9W c6)))) (all_cons ⟨e0, a6q⟩ (all_cons ⟨e1, a04⟩ (all_cons ⟨e2, a92⟩ (all_cons ⟨e3, a7G⟩ (all_cons ⟨e4, J8⟩ (all_cons ⟨e5, a6A⟩ c6))))))
theorem a5C (hE : p_law21_MsgGets_E.Ok Try.prog) {g : Ds B9 → Option (Rs [.bool])} (hg : ∀ x r, g x = some r → ∃ N, C9 N x = some r) : i0 Try.prog 8 ⟨B9, [.bool], g⟩ :=
 p8 (E := p_law21_MsgGets_E) (H := a1g) (L := fun N => S0 N) (c := M4) (ks := B9) (rs := a0i) (F := C9) hE mix Try.func8 (by kernel_rfl) (fun N => a3h N) (fun _ _ => by kernel_rfl) hg
end Go.Ax.TryP
set_option linter.unusedVariables false
namespace Go.Ax.TryP
open Go.Proofs
theorem c0f {b : List Int} (hb : bytes b) (hl : b.length ≤ 1000000) : a5m (b, ()) = some (w5 b) := by
 have hM := b7R
 exact j6 (ks := O8) (rs := O9) (x := (b, ())) ⟨(Q2 (b := b)).2 ⟨by omega, hb⟩, trivial⟩ hl
theorem b8R {b : List Int} (hb : bytes b) (hl : b.length ≤ 1000000) : a1M (b, ()) = some (w5 b) := by
 have hM := b7R
 exact j6 (ks := G9) (rs := H0) (x := (b, ())) ⟨(Q2 (b := b)).2 ⟨by omega, hb⟩, trivial⟩ hl
theorem b8i (c : Ms) : b2k c c = true := b8h.2 rfl
end Go.Ax.TryP
namespace Go.Ax.TryP
open Go.Proofs
theorem b2i : i0 Try.prog 67 J3 := a7W (a6O) b18
theorem b8e : i0 Try.prog 32 a8o := b29 (b1I b1d a9L b2i a2j) b76
end Go.Ax.TryP
