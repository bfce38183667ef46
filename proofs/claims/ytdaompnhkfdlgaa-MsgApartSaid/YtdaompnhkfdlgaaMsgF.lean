/- A part of the proof: MsgP4b, MsgP4c, MsgP4d, MsgP4e, MsgP4f, MsgQ17a, MsgQ17. -/
import Derived.Test.YtdaompnhkfdlgaaMsgE
set_option linter.unusedVariables false
namespace Go.Ax.TryP
open Go.Proofs
noncomputable def p_msg_Get_E : AE := AE.ofA [(3, ty3), (26, ty26), (29, ty29), (31, ty31), (33, ty33), (64, ty64), (67, ty67), (69, ty69), (73, ty73)] [(14, V3), (25, M0)] [] [(55, a20)] [] [(56, D8), (57, a1q), (58, X0)] [24, 25] [(7, 20)] [] [] [] []
noncomputable def k9 : Hints := [(7, [2, 3, 4, 22, 23, 24]), (2000000, [2, 3, 4]), (2000001, [2, 3, 4, 22, 23, 24]), (3000000, [2, 3]), (5000000, [2, 3]), (8000002, [0, 2, 3]), (8000007, [2, 3, 4, 22, 23, 24]), (8000011, [2, 3, 4])]
noncomputable def d7 : Code := (Try.f32).body.getD .skip
noncomputable def T6 : Shape where
 h := { tmps := [V, V, .sc (.ptr 0 0 false), .sc (.ptr 1 0 false), .sc (.ptr 2 0 false), V, V, V, V, V, V, V, V, V, V, V, V, V, V, V, V, V, .sc (.vec 3 (some 8) 1), .sc (.lit .i64 (8)), .sc (.lit .i64 (0)), V, V, V, V, V, V, V, V, V, V, V, V, V, V, V, V, V, V, V, V, V, V, V], mem := [.live [.xs b64 (some 1), .xs b64 (some 1), .xs b64 (some 1), .xs (.int .u32) (some 1), .xs (.int .u32) (some 1), .xs (.int .u64) (some 2), .xs b64 (some 1), .xs b64 (some 1), .one (.nilsl), .one (.nilsl), .one (.nilsl)] (.own), .live [.xs b64 (some 1)] (.own), .live [.one (.sl 4 (some 1) none none 1)] (.own), .live [.one (.ifp 95 0 1), .one (.ifp 95 0 2), .one (.ifp 98 0 3), .one (.ifp 98 0 4), .one (.ifp 101 0 5), .one (.ifp 101 0 6), .one (.ifq 81 0 9 .i64), .one (.ifq 81 0 10 .i64)] (.own), .live [.xs b8 none] (.ro)], dfr := [(55, [.ptr 0 0 false, .ptr 1 0 false])] }
 ks := [.xs, .xs, .xs, .xs, .xs, .xs, .xs, .xs, .xs, .nat, .nat, .int, .int, .nat, .xs]
 st := fun x => { tmps := [U, U, .one (.sc (.ptr 0 0 none)), .one (.sc (.ptr 1 0 none)), .one (.sc (.ptr 2 0 none)), U, U, U, U, U, U, U, U, U, U, U, U, U, U, U, U, U, .one (.sc (.vec 3 8 1)), .one (.sc (.int .i64 (8:Int))), .one (.sc (.int .i64 (0:Int))), U, U, U, U, U, U, U, U, U, U, U, U, U, U, U, U, U, U, U, U, U, U, U], mem := [.live { segs := [.xs b64 1 x.1, .xs b64 1 x.2.1, .xs b64 1 x.2.2.1, .xs (.int .u32) 1 x.2.2.2.1, .xs (.int .u32) 1 x.2.2.2.2.1, .xs (.int .u64) 2 x.2.2.2.2.2.1, .xs b64 1 x.2.2.2.2.2.2.1, .xs b64 1 x.2.2.2.2.2.2.2.1, .one (.nilsl), .one (.nilsl), .one (.nilsl)], own := .own }, .live { segs := [.xs b64 1 x.2.2.2.2.2.2.2.2.1], own := .own }, .live { segs := [.one (.sl 4 1 x.2.2.2.2.2.2.2.2.2.1 x.2.2.2.2.2.2.2.2.2.2.1 1)], own := .own }, .live { segs := [.one (.ifp 95 0 1), .one (.ifp 95 0 2), .one (.ifp 98 0 3), .one (.ifp 98 0 4), .one (.ifp 101 0 5), .one (.ifp 101 0 6), .one (.ifq 81 0 9 .i64 x.2.2.2.2.2.2.2.2.2.2.2.1), .one (.ifq 81 0 10 .i64 x.2.2.2.2.2.2.2.2.2.2.2.2.1)], own := .own }, .live { segs := [.xs b8 x.2.2.2.2.2.2.2.2.2.2.2.2.2.1 x.2.2.2.2.2.2.2.2.2.2.2.2.2.2.1], own := .ro }], dfr := [(55, [.ptr 0 0 none, .ptr 1 0 none])] }
abbrev W12 : Type := List Int × List Int × List Int × List Int × List Int × List Int × List Int × List Int × List Int × Nat × Nat × Int × Int × Nat × List Int × Unit
abbrev W13 : Type := (Int × List Int × List Int × List Int × List Int × List Int × List Int × List Int × List Int × List Int × Unit) ⊕ ((Int × List Int × List Int × List Int × List Int × List Int × List Int × List Int × List Int × Nat × List Int × Nat × List Int × Unit) ⊕ (List Int × List Int × List Int × List Int × List Int × List Int × List Int × List Int × Nat × Nat × List Int × Nat × Nat × Nat × Nat × List Int × Nat × List Int × Nat × List Int × Unit))
noncomputable def H9 (N : Nat) (β : Type) (x : W12) (ke : W13 → Option β) : Option β :=
 if (((x.2.2.2.2.2.2.2.2.2.1 : Nat) : Int) < (1:Int)) then
  ke (.inl ((List.getD (List.set [0] 0 (8:Int)) 0 0), x.1, x.2.1, x.2.2.1, x.2.2.2.1, x.2.2.2.2.1, x.2.2.2.2.2.1, x.2.2.2.2.2.2.1, x.2.2.2.2.2.2.2.1, x.2.2.2.2.2.2.2.2.1, ()))
 else
  if 0 ≤ (1:Int) then (
  if (1:Int) ≤ ((x.2.2.2.2.2.2.2.2.2.1 : Nat) : Int) then (
  if 0 ≤ (1:Int) then (
  if (1:Int) ≤ ((x.2.2.2.2.2.2.2.2.2.1 : Nat) : Int) then (
  (d0 ((List.take 1 (List.drop 1 x.2.2.2.2.2.2.2.2.2.2.2.2.2.2.1)), ())).bind fun r3 => (
  if ((((x.2.2.2.2.2.2.2.2.2.1 - 1) : Nat) : Int) < (1:Int)) then
   ke (.inl ((List.getD (List.set [0] 0 (8:Int)) 0 0), x.1, (List.set x.2.1 0 (IntKind.i64.wrap r3.1)), x.2.2.1, x.2.2.2.1, x.2.2.2.2.1, x.2.2.2.2.2.1, x.2.2.2.2.2.2.1, x.2.2.2.2.2.2.2.1, x.2.2.2.2.2.2.2.2.1, ()))
  else
   if 0 ≤ (1:Int) then (
   if (1:Int) ≤ (((x.2.2.2.2.2.2.2.2.2.1 - 1) : Nat) : Int) then (
   if 0 ≤ (1:Int) then (
   if (1:Int) ≤ (((x.2.2.2.2.2.2.2.2.2.1 - 1) : Nat) : Int) then (
   (d0 ((List.take 1 (List.drop 2 x.2.2.2.2.2.2.2.2.2.2.2.2.2.2.1)), ())).bind fun r4 => (
   if (((((x.2.2.2.2.2.2.2.2.2.1 - 1) - 1) : Nat) : Int) < (4:Int)) then
    ke (.inl ((List.getD (List.set [0] 0 (8:Int)) 0 0), x.1, (List.set x.2.1 0 (IntKind.i64.wrap r3.1)), (List.set x.2.2.1 0 (IntKind.i64.wrap r4.1)), x.2.2.2.1, x.2.2.2.2.1, x.2.2.2.2.2.1, x.2.2.2.2.2.2.1, x.2.2.2.2.2.2.2.1, x.2.2.2.2.2.2.2.2.1, ()))
   else
    if 0 ≤ (4:Int) then (
    if (4:Int) ≤ ((((x.2.2.2.2.2.2.2.2.2.1 - 1) - 1) : Nat) : Int) then (
    if 0 ≤ (4:Int) then (
    if (4:Int) ≤ ((((x.2.2.2.2.2.2.2.2.2.1 - 1) - 1) : Nat) : Int) then (
    (d0 ((List.take 4 (List.drop 3 x.2.2.2.2.2.2.2.2.2.2.2.2.2.2.1)), ())).bind fun r5 => (
    if ((((((x.2.2.2.2.2.2.2.2.2.1 - 1) - 1) - 4) : Nat) : Int) < (4:Int)) then
     ke (.inl ((List.getD (List.set [0] 0 (8:Int)) 0 0), x.1, (List.set x.2.1 0 (IntKind.i64.wrap r3.1)), (List.set x.2.2.1 0 (IntKind.i64.wrap r4.1)), (List.set x.2.2.2.1 0 (IntKind.u32.wrap r5.1)), x.2.2.2.2.1, x.2.2.2.2.2.1, x.2.2.2.2.2.2.1, x.2.2.2.2.2.2.2.1, x.2.2.2.2.2.2.2.2.1, ()))
    else
     if 0 ≤ (4:Int) then (
     if (4:Int) ≤ (((((x.2.2.2.2.2.2.2.2.2.1 - 1) - 1) - 4) : Nat) : Int) then (
     if 0 ≤ (4:Int) then (
     if (4:Int) ≤ (((((x.2.2.2.2.2.2.2.2.2.1 - 1) - 1) - 4) : Nat) : Int) then (
     (d0 ((List.take 4 (List.drop 7 x.2.2.2.2.2.2.2.2.2.2.2.2.2.2.1)), ())).bind fun r6 => (
     if (((((((x.2.2.2.2.2.2.2.2.2.1 - 1) - 1) - 4) - 4) : Nat) : Int) < (8:Int)) then
      ke (.inl ((List.getD (List.set [0] 0 (8:Int)) 0 0), x.1, (List.set x.2.1 0 (IntKind.i64.wrap r3.1)), (List.set x.2.2.1 0 (IntKind.i64.wrap r4.1)), (List.set x.2.2.2.1 0 (IntKind.u32.wrap r5.1)), (List.set x.2.2.2.2.1 0 (IntKind.u32.wrap r6.1)), x.2.2.2.2.2.1, x.2.2.2.2.2.2.1, x.2.2.2.2.2.2.2.1, x.2.2.2.2.2.2.2.2.1, ()))
     else
      if 0 ≤ (8:Int) then (
      if (8:Int) ≤ ((((((x.2.2.2.2.2.2.2.2.2.1 - 1) - 1) - 4) - 4) : Nat) : Int) then (
      if 0 ≤ (8:Int) then (
      if (8:Int) ≤ ((((((x.2.2.2.2.2.2.2.2.2.1 - 1) - 1) - 4) - 4) : Nat) : Int) then (
      (d0 ((List.take 8 (List.drop 11 x.2.2.2.2.2.2.2.2.2.2.2.2.2.2.1)), ())).bind fun r7 => (
      if ((((((((x.2.2.2.2.2.2.2.2.2.1 - 1) - 1) - 4) - 4) - 8) : Nat) : Int) < (8:Int)) then
       ke (.inl ((List.getD (List.set [0] 0 (8:Int)) 0 0), x.1, (List.set x.2.1 0 (IntKind.i64.wrap r3.1)), (List.set x.2.2.1 0 (IntKind.i64.wrap r4.1)), (List.set x.2.2.2.1 0 (IntKind.u32.wrap r5.1)), (List.set x.2.2.2.2.1 0 (IntKind.u32.wrap r6.1)), (List.set x.2.2.2.2.2.1 0 r7.1), x.2.2.2.2.2.2.1, x.2.2.2.2.2.2.2.1, x.2.2.2.2.2.2.2.2.1, ()))
      else
       if 0 ≤ (8:Int) then (
       if (8:Int) ≤ (((((((x.2.2.2.2.2.2.2.2.2.1 - 1) - 1) - 4) - 4) - 8) : Nat) : Int) then (
       if 0 ≤ (8:Int) then (
       if (8:Int) ≤ (((((((x.2.2.2.2.2.2.2.2.2.1 - 1) - 1) - 4) - 4) - 8) : Nat) : Int) then (
       (d0 ((List.take 8 (List.drop 19 x.2.2.2.2.2.2.2.2.2.2.2.2.2.2.1)), ())).bind fun r8 => (
       if (((((((((x.2.2.2.2.2.2.2.2.2.1 - 1) - 1) - 4) - 4) - 8) - 8) : Nat) : Int) < (2:Int)) then
        ke (.inl ((List.getD (List.set [0] 0 (8:Int)) 0 0), x.1, (List.set x.2.1 0 (IntKind.i64.wrap r3.1)), (List.set x.2.2.1 0 (IntKind.i64.wrap r4.1)), (List.set x.2.2.2.1 0 (IntKind.u32.wrap r5.1)), (List.set x.2.2.2.2.1 0 (IntKind.u32.wrap r6.1)), (List.set (List.set x.2.2.2.2.2.1 0 r7.1) 1 r8.1), x.2.2.2.2.2.2.1, x.2.2.2.2.2.2.2.1, x.2.2.2.2.2.2.2.2.1, ()))
       else
        if 0 ≤ (2:Int) then (
        if (2:Int) ≤ ((((((((x.2.2.2.2.2.2.2.2.2.1 - 1) - 1) - 4) - 4) - 8) - 8) : Nat) : Int) then (
        if 0 ≤ (2:Int) then (
        if (2:Int) ≤ ((((((((x.2.2.2.2.2.2.2.2.2.1 - 1) - 1) - 4) - 4) - 8) - 8) : Nat) : Int) then (
        (d0 ((List.take 2 (List.drop 27 x.2.2.2.2.2.2.2.2.2.2.2.2.2.2.1)), ())).bind fun r9 => (
        if (r9.1 > (IntKind.u64.wrap x.2.2.2.2.2.2.2.2.2.2.2.1)) then
         ke (.inl ((List.getD (List.set [0] 0 (3:Int)) 0 0), x.1, (List.set x.2.1 0 (IntKind.i64.wrap r3.1)), (List.set x.2.2.1 0 (IntKind.i64.wrap r4.1)), (List.set x.2.2.2.1 0 (IntKind.u32.wrap r5.1)), (List.set x.2.2.2.2.1 0 (IntKind.u32.wrap r6.1)), (List.set (List.set x.2.2.2.2.2.1 0 r7.1) 1 r8.1), x.2.2.2.2.2.2.1, x.2.2.2.2.2.2.2.1, x.2.2.2.2.2.2.2.2.1, ()))
        else
         if r9.1 = r9.1 then (
         if (IntKind.i64.wrap r9.1) = (IntKind.i64.wrap r9.1) then (
         if ((((((((((x.2.2.2.2.2.2.2.2.2.1 - 1) - 1) - 4) - 4) - 8) - 8) - 2) : Nat) : Int) < (IntKind.i64.wrap r9.1)) then
          ke (.inl ((List.getD (List.set [0] 0 (8:Int)) 0 0), x.1, (List.set x.2.1 0 (IntKind.i64.wrap r3.1)), (List.set x.2.2.1 0 (IntKind.i64.wrap r4.1)), (List.set x.2.2.2.1 0 (IntKind.u32.wrap r5.1)), (List.set x.2.2.2.2.1 0 (IntKind.u32.wrap r6.1)), (List.set (List.set x.2.2.2.2.2.1 0 r7.1) 1 r8.1), x.2.2.2.2.2.2.1, x.2.2.2.2.2.2.2.1, x.2.2.2.2.2.2.2.2.1, ()))
         else
          if 0 ≤ (IntKind.i64.wrap r9.1) then (
          if (IntKind.i64.wrap r9.1) ≤ (((((((((x.2.2.2.2.2.2.2.2.2.1 - 1) - 1) - 4) - 4) - 8) - 8) - 2) : Nat) : Int) then (
          if 0 ≤ (IntKind.i64.wrap r9.1) then (
          if (IntKind.i64.wrap r9.1) ≤ (((((((((x.2.2.2.2.2.2.2.2.2.1 - 1) - 1) - 4) - 4) - 8) - 8) - 2) : Nat) : Int) then (
          if r9.1 = r9.1 then (
          if (IntKind.i64.wrap r9.1) = (IntKind.i64.wrap r9.1) then (
          (i0 ((List.take ((IntKind.i64.wrap r9.1).toNat) (List.drop 29 x.2.2.2.2.2.2.2.2.2.2.2.2.2.2.1)), ())).bind fun r10 => (
          if r9.1 = r9.1 then (
          if (IntKind.i64.wrap r9.1) = (IntKind.i64.wrap r9.1) then (
          if ((((a02 (((((((x.2.2.2.2.2.2.2.2.2.1 - 1) - 1) - 4) - 4) - 8) - 8) - 2) ((IntKind.i64.wrap r9.1).toNat)) : Nat) : Int) < (2:Int)) then
           ke (.inr (.inl ((List.getD (List.set [0] 0 (8:Int)) 0 0), x.1, (List.set x.2.1 0 (IntKind.i64.wrap r3.1)), (List.set x.2.2.1 0 (IntKind.i64.wrap r4.1)), (List.set x.2.2.2.1 0 (IntKind.u32.wrap r5.1)), (List.set x.2.2.2.2.1 0 (IntKind.u32.wrap r6.1)), (List.set (List.set x.2.2.2.2.2.1 0 r7.1) 1 r8.1), x.2.2.2.2.2.2.1, x.2.2.2.2.2.2.2.1, (List.length r10), x.2.2.2.2.2.2.2.2.1, (List.length r10), r10, ())))
          else
           if 0 ≤ (2:Int) then (
           if (2:Int) ≤ (((a02 (((((((x.2.2.2.2.2.2.2.2.2.1 - 1) - 1) - 4) - 4) - 8) - 8) - 2) ((IntKind.i64.wrap r9.1).toNat)) : Nat) : Int) then (
           if 0 ≤ (2:Int) then (
           if (2:Int) ≤ (((a02 (((((((x.2.2.2.2.2.2.2.2.2.1 - 1) - 1) - 4) - 4) - 8) - 8) - 2) ((IntKind.i64.wrap r9.1).toNat)) : Nat) : Int) then (
           (d0 ((List.take 2 (List.drop (a40 (29 + ((IntKind.i64.wrap r9.1).toNat)) 0) x.2.2.2.2.2.2.2.2.2.2.2.2.2.2.1)), ())).bind fun r11 => (
           if (r11.1 > (IntKind.u64.wrap x.2.2.2.2.2.2.2.2.2.2.2.2.1)) then
            ke (.inr (.inl ((List.getD (List.set [0] 0 (3:Int)) 0 0), x.1, (List.set x.2.1 0 (IntKind.i64.wrap r3.1)), (List.set x.2.2.1 0 (IntKind.i64.wrap r4.1)), (List.set x.2.2.2.1 0 (IntKind.u32.wrap r5.1)), (List.set x.2.2.2.2.1 0 (IntKind.u32.wrap r6.1)), (List.set (List.set x.2.2.2.2.2.1 0 r7.1) 1 r8.1), x.2.2.2.2.2.2.1, x.2.2.2.2.2.2.2.1, (List.length r10), x.2.2.2.2.2.2.2.2.1, (List.length r10), r10, ())))
           else
            if r11.1 = r11.1 then (
            if (IntKind.i64.wrap r11.1) = (IntKind.i64.wrap r11.1) then (
            if (((((a02 (((((((x.2.2.2.2.2.2.2.2.2.1 - 1) - 1) - 4) - 4) - 8) - 8) - 2) ((IntKind.i64.wrap r9.1).toNat)) - 2) : Nat) : Int) < (IntKind.i64.wrap r11.1)) then
             ke (.inr (.inl ((List.getD (List.set [0] 0 (8:Int)) 0 0), x.1, (List.set x.2.1 0 (IntKind.i64.wrap r3.1)), (List.set x.2.2.1 0 (IntKind.i64.wrap r4.1)), (List.set x.2.2.2.1 0 (IntKind.u32.wrap r5.1)), (List.set x.2.2.2.2.1 0 (IntKind.u32.wrap r6.1)), (List.set (List.set x.2.2.2.2.2.1 0 r7.1) 1 r8.1), x.2.2.2.2.2.2.1, x.2.2.2.2.2.2.2.1, (List.length r10), x.2.2.2.2.2.2.2.2.1, (List.length r10), r10, ())))
            else
             if 0 ≤ (IntKind.i64.wrap r11.1) then (
             if (IntKind.i64.wrap r11.1) ≤ ((((a02 (((((((x.2.2.2.2.2.2.2.2.2.1 - 1) - 1) - 4) - 4) - 8) - 8) - 2) ((IntKind.i64.wrap r9.1).toNat)) - 2) : Nat) : Int) then (
             if 0 ≤ (IntKind.i64.wrap r11.1) then (
             if (IntKind.i64.wrap r11.1) ≤ ((((a02 (((((((x.2.2.2.2.2.2.2.2.2.1 - 1) - 1) - 4) - 4) - 8) - 8) - 2) ((IntKind.i64.wrap r9.1).toNat)) - 2) : Nat) : Int) then (
             if r11.1 = r11.1 then (
             if (IntKind.i64.wrap r11.1) = (IntKind.i64.wrap r11.1) then (
             (i0 ((List.take ((IntKind.i64.wrap r11.1).toNat) (List.drop (a40 (a40 (29 + ((IntKind.i64.wrap r9.1).toNat)) 2) 0) x.2.2.2.2.2.2.2.2.2.2.2.2.2.2.1)), ())).bind fun r12 => (
             if r11.1 = r11.1 then (
             if (IntKind.i64.wrap r11.1) = (IntKind.i64.wrap r11.1) then (
             ke (.inr (.inr (x.1, (List.set x.2.1 0 (IntKind.i64.wrap r3.1)), (List.set x.2.2.1 0 (IntKind.i64.wrap r4.1)), (List.set x.2.2.2.1 0 (IntKind.u32.wrap r5.1)), (List.set x.2.2.2.2.1 0 (IntKind.u32.wrap r6.1)), (List.set (List.set x.2.2.2.2.2.1 0 r7.1) 1 r8.1), x.2.2.2.2.2.2.1, x.2.2.2.2.2.2.2.1, (List.length r10), (List.length r12), x.2.2.2.2.2.2.2.2.1, (a40 (a40 (29 + ((IntKind.i64.wrap r9.1).toNat)) 2) ((IntKind.i64.wrap r11.1).toNat)), (a02 ((a02 (((((((x.2.2.2.2.2.2.2.2.2.1 - 1) - 1) - 4) - 4) - 8) - 8) - 2) ((IntKind.i64.wrap r9.1).toNat)) - 2) ((IntKind.i64.wrap r11.1).toNat)), (a02 ((a02 (((((((x.2.2.2.2.2.2.2.2.2.2.1 - 1) - 1) - 4) - 4) - 8) - 8) - 2) ((IntKind.i64.wrap r9.1).toNat)) - 2) ((IntKind.i64.wrap r11.1).toNat)), (List.length r10), r10, (List.length r12), r12, x.2.2.2.2.2.2.2.2.2.2.2.2.2.1, x.2.2.2.2.2.2.2.2.2.2.2.2.2.2.1, ())))) else none) else none)) else none) else none) else none) else none) else none) else none) else none) else none)) else none) else none) else none) else none) else none) else none)) else none) else none) else none) else none) else none) else none) else none) else none)) else none) else none) else none) else none)) else none) else none) else none) else none)) else none) else none) else none) else none)) else none) else none) else none) else none)) else none) else none) else none) else none)) else none) else none) else none) else none)) else none) else none) else none) else none
noncomputable def a1F : Go' W13 := fun y K => match y with
 | .inl y => K (.pan (.ifg 64 .i64) y.1) (fSt { tmps := V :: V :: .sc (.ptr 0 0 false) :: .sc (.ptr 1 0 false) :: pv 44 [], mem := [.live [.xs b64 (some 1), .xs b64 (some 1), .xs b64 (some 1), .xs (.int .u32) (some 1), .xs (.int .u32) (some 1), .xs (.int .u64) (some 2), .xs b64 (some 1), .xs b64 (some 1), .one (.nilsl), .one (.nilsl), .one (.nilsl)] (.own), .live [.xs b64 (some 1)] (.own)], dfr := [(55, [.ptr 0 0 false, .ptr 1 0 false])] } [.xs, .xs, .xs, .xs, .xs, .xs, .xs, .xs, .xs] y.2)
 | .inr (.inl y) => K (.pan (.ifg 64 .i64) y.1) (fSt { tmps := V :: V :: .sc (.ptr 0 0 false) :: .sc (.ptr 1 0 false) :: pv 44 [], mem := [.live [.xs b64 (some 1), .xs b64 (some 1), .xs b64 (some 1), .xs (.int .u32) (some 1), .xs (.int .u32) (some 1), .xs (.int .u64) (some 2), .xs b64 (some 1), .xs b64 (some 1), .one (.vec 2 none 1), .one (.nilsl), .one (.nilsl)] (.own), .live [.xs b64 (some 1)] (.own), .live [.xs b8 none] (.own)], dfr := [(55, [.ptr 0 0 false, .ptr 1 0 false])] } [.xs, .xs, .xs, .xs, .xs, .xs, .xs, .xs, .nat, .xs, .nat, .xs] y.2)
 | .inr (.inr y) => K .normal (fSt { tmps := V :: V :: .sc (.ptr 0 0 false) :: .sc (.ptr 1 0 false) :: .sc (.ptr 2 0 false) :: pv 43 [], mem := [.live [.xs b64 (some 1), .xs b64 (some 1), .xs b64 (some 1), .xs (.int .u32) (some 1), .xs (.int .u32) (some 1), .xs (.int .u64) (some 2), .xs b64 (some 1), .xs b64 (some 1), .one (.vec 3 none 1), .one (.vec 4 none 1), .one (.nilsl)] (.own), .live [.xs b64 (some 1)] (.own), .live [.one (.sl 5 none none none 1)] (.own), .live [.xs b8 none] (.own), .live [.xs b8 none] (.own), .live [.xs b8 none] (.ro)], dfr := [(55, [.ptr 0 0 false, .ptr 1 0 false])] } [.xs, .xs, .xs, .xs, .xs, .xs, .xs, .xs, .nat, .nat, .xs, .nat, .nat, .nat, .nat, .xs, .nat, .xs, .nat, .xs] y)
theorem a7z (N : Nat) : EntryOk p_msg_Get_E k9 N (I1 T6 (H9 N) a1F) (.seq (S4 8000007 d7) (G1 8000007 d7)) :=
 a5B (body := d7) (k := 7) (OkAll.nil) (by kernel_rfl) (fun x => by kernel_rfl) (fun β x K => by kernel_rfl)
noncomputable def N4 : Shape := mkS { tmps := V :: V :: .sc (.ptr 0 0 false) :: .sc (.ptr 1 0 false) :: .sc (.ptr 2 0 false) :: pv 43 [], mem := [.live [.xs b64 (some 1), .xs b64 (some 1), .xs b64 (some 1), .xs (.int .u32) (some 1), .xs (.int .u32) (some 1), .xs (.int .u64) (some 2), .xs b64 (some 1), .xs b64 (some 1), .one (.vec 3 none 1), .one (.vec 4 none 1), .one (.nilsl)] (.own), .live [.xs b64 (some 1)] (.own), .live [.one (.sl 5 none none none 1)] (.own), .live [.xs b8 none] (.own), .live [.xs b8 none] (.own), .live [.xs b8 none] (.ro)], dfr := [(55, [.ptr 0 0 false, .ptr 1 0 false])] } [.xs, .xs, .xs, .xs, .xs, .xs, .xs, .xs, .nat, .nat, .xs, .nat, .nat, .nat, .nat, .xs, .nat, .xs, .nat, .xs]
abbrev W14 : Type := List Int × List Int × List Int × List Int × List Int × List Int × List Int × List Int × Nat × Nat × List Int × Nat × Nat × Nat × Nat × List Int × Nat × List Int × Nat × List Int × Unit
abbrev W15 : Type := (Int × List Int × List Int × List Int × List Int × List Int × List Int × List Int × List Int × Nat × Nat × List Int × Nat × List Int × Nat × List Int × Unit) ⊕ (List Int × List Int × List Int × List Int × List Int × List Int × List Int × List Int × Nat × Nat × List Int × Nat × List Int × Nat × List Int × Unit)
noncomputable def F3 (N : Nat) (β : Type) (x : W14) (ke : W15 → Option β) : Option β :=
 if (((x.2.2.2.2.2.2.2.2.2.2.2.2.1 : Nat) : Int) > (0:Int)) then
  ke (.inl ((List.getD (List.set [0] 0 (212:Int)) 0 0), x.1, x.2.1, x.2.2.1, x.2.2.2.1, x.2.2.2.2.1, x.2.2.2.2.2.1, x.2.2.2.2.2.2.1, x.2.2.2.2.2.2.2.1, x.2.2.2.2.2.2.2.2.1, x.2.2.2.2.2.2.2.2.2.1, x.2.2.2.2.2.2.2.2.2.2.1, x.2.2.2.2.2.2.2.2.2.2.2.2.2.2.1, x.2.2.2.2.2.2.2.2.2.2.2.2.2.2.2.1, x.2.2.2.2.2.2.2.2.2.2.2.2.2.2.2.2.1, x.2.2.2.2.2.2.2.2.2.2.2.2.2.2.2.2.2.1, ()))
 else
  (u2 (((List.getD x.1 0 0), (List.getD x.2.1 0 0), (List.getD x.2.2.1 0 0), (List.getD x.2.2.2.1 0 0), (List.getD x.2.2.2.2.1 0 0), (List.getD (List.take 1 x.2.2.2.2.2.1) 0 0), (List.getD (List.drop 1 x.2.2.2.2.2.1) 0 0), (List.getD x.2.2.2.2.2.2.1 0 0), (List.getD x.2.2.2.2.2.2.2.1 0 0), x.2.2.2.2.2.2.2.2.2.2.2.2.2.2.2.1, x.2.2.2.2.2.2.2.2.2.2.2.2.2.2.2.2.2.1, [], ()), ())).bind fun r16 => (
  if (r16 ≠ (0:Int)) then
   ke (.inl ((List.getD (List.set [0] 0 r16) 0 0), x.1, x.2.1, x.2.2.1, x.2.2.2.1, x.2.2.2.2.1, x.2.2.2.2.2.1, x.2.2.2.2.2.2.1, x.2.2.2.2.2.2.2.1, x.2.2.2.2.2.2.2.2.1, x.2.2.2.2.2.2.2.2.2.1, x.2.2.2.2.2.2.2.2.2.2.1, x.2.2.2.2.2.2.2.2.2.2.2.2.2.2.1, x.2.2.2.2.2.2.2.2.2.2.2.2.2.2.2.1, x.2.2.2.2.2.2.2.2.2.2.2.2.2.2.2.2.1, x.2.2.2.2.2.2.2.2.2.2.2.2.2.2.2.2.2.1, ()))
  else
   ke (.inr (x.1, x.2.1, x.2.2.1, x.2.2.2.1, x.2.2.2.2.1, x.2.2.2.2.2.1, x.2.2.2.2.2.2.1, x.2.2.2.2.2.2.2.1, x.2.2.2.2.2.2.2.2.1, x.2.2.2.2.2.2.2.2.2.1, (List.set x.2.2.2.2.2.2.2.2.2.2.1 0 (0:Int)), x.2.2.2.2.2.2.2.2.2.2.2.2.2.2.1, x.2.2.2.2.2.2.2.2.2.2.2.2.2.2.2.1, x.2.2.2.2.2.2.2.2.2.2.2.2.2.2.2.2.1, x.2.2.2.2.2.2.2.2.2.2.2.2.2.2.2.2.2.1, ())))
noncomputable def a0T : Go' W15 := fun y K => match y with
 | .inl y => K (.pan (.ifg 64 .i64) y.1) (fSt { tmps := V :: V :: .sc (.ptr 0 0 false) :: .sc (.ptr 1 0 false) :: pv 44 [], mem := [.live [.xs b64 (some 1), .xs b64 (some 1), .xs b64 (some 1), .xs (.int .u32) (some 1), .xs (.int .u32) (some 1), .xs (.int .u64) (some 2), .xs b64 (some 1), .xs b64 (some 1), .one (.vec 2 none 1), .one (.vec 3 none 1), .one (.nilsl)] (.own), .live [.xs b64 (some 1)] (.own), .live [.xs b8 none] (.own), .live [.xs b8 none] (.own)], dfr := [(55, [.ptr 0 0 false, .ptr 1 0 false])] } [.xs, .xs, .xs, .xs, .xs, .xs, .xs, .xs, .nat, .nat, .xs, .nat, .xs, .nat, .xs] y.2)
 | .inr y => K .ret (fSt { tmps := V :: V :: .sc (.ptr 0 0 false) :: .sc (.ptr 1 0 false) :: pv 44 [], mem := [.live [.xs b64 (some 1), .xs b64 (some 1), .xs b64 (some 1), .xs (.int .u32) (some 1), .xs (.int .u32) (some 1), .xs (.int .u64) (some 2), .xs b64 (some 1), .xs b64 (some 1), .one (.vec 2 none 1), .one (.vec 3 none 1), .one (.nilsl)] (.own), .live [.xs b64 (some 1)] (.own), .live [.xs b8 none] (.own), .live [.xs b8 none] (.own)], dfr := [(55, [.ptr 0 0 false, .ptr 1 0 false])] } [.xs, .xs, .xs, .xs, .xs, .xs, .xs, .xs, .nat, .nat, .xs, .nat, .xs, .nat, .xs] y)
theorem a6A (N : Nat) : EntryOk p_msg_Get_E k9 N (I1 N4 (F3 N) a0T) (.seq (S4 8000011 d7) (G1 8000011 d7)) :=
 a5B (body := d7) (k := 11) (OkAll.nil) (by kernel_rfl) (fun x => by kernel_rfl) (fun β x K => by kernel_rfl)
noncomputable def K5 : Shape where
 h := { tmps := [V, V, .sc (.ptr 0 0 false), .sc (.ptr 1 0 false), .sc (.ptr 2 0 false), V, V, V, V, V, V, V, V, V, V, V, V, V, V, V, V, V, .sc (.vec 3 (some 8) 1), .sc (.lit .i64 (8)), .sc (.lit .i64 (0)), V, V, V, V, V, V, V, V, V, V, V, V, V, V, V, V, V, V, V, V, V, V, V], mem := [.live [.xs b64 (some 1), .xs b64 (some 1), .xs b64 (some 1), .xs (.int .u32) (some 1), .xs (.int .u32) (some 1), .xs (.int .u64) (some 2), .xs b64 (some 1), .xs b64 (some 1), .one (.nilsl), .one (.nilsl), .one (.nilsl)] (.own), .live [.xs b64 (some 1)] (.own), .live [.one (.sl 4 (some 1) none none 1)] (.own), .live [.one (.ifp 95 0 1), .one (.ifp 95 0 2), .one (.ifp 98 0 3), .one (.ifp 98 0 4), .one (.ifp 101 0 5), .one (.ifp 101 0 6), .one (.ifq 81 0 10 .i64), .one (.ifq 81 0 11 .i64)] (.own), .live [.xs b8 none] (.ro)], dfr := [(55, [.ptr 0 0 false, .ptr 1 0 false])] }
 ks := [.xs, .xs, .xs, .xs, .xs, .xs, .xs, .xs, .xs, .nat, .nat, .int, .int, .nat, .xs]
 st := fun x => { tmps := [U, U, .one (.sc (.ptr 0 0 none)), .one (.sc (.ptr 1 0 none)), .one (.sc (.ptr 2 0 none)), U, U, U, U, U, U, U, U, U, U, U, U, U, U, U, U, U, .one (.sc (.vec 3 8 1)), .one (.sc (.int .i64 (8:Int))), .one (.sc (.int .i64 (0:Int))), U, U, U, U, U, U, U, U, U, U, U, U, U, U, U, U, U, U, U, U, U, U, U], mem := [.live { segs := [.xs b64 1 x.1, .xs b64 1 x.2.1, .xs b64 1 x.2.2.1, .xs (.int .u32) 1 x.2.2.2.1, .xs (.int .u32) 1 x.2.2.2.2.1, .xs (.int .u64) 2 x.2.2.2.2.2.1, .xs b64 1 x.2.2.2.2.2.2.1, .xs b64 1 x.2.2.2.2.2.2.2.1, .one (.nilsl), .one (.nilsl), .one (.nilsl)], own := .own }, .live { segs := [.xs b64 1 x.2.2.2.2.2.2.2.2.1], own := .own }, .live { segs := [.one (.sl 4 1 x.2.2.2.2.2.2.2.2.2.1 x.2.2.2.2.2.2.2.2.2.2.1 1)], own := .own }, .live { segs := [.one (.ifp 95 0 1), .one (.ifp 95 0 2), .one (.ifp 98 0 3), .one (.ifp 98 0 4), .one (.ifp 101 0 5), .one (.ifp 101 0 6), .one (.ifq 81 0 10 .i64 x.2.2.2.2.2.2.2.2.2.2.2.1), .one (.ifq 81 0 11 .i64 x.2.2.2.2.2.2.2.2.2.2.2.2.1)], own := .own }, .live { segs := [.xs b8 x.2.2.2.2.2.2.2.2.2.2.2.2.2.1 x.2.2.2.2.2.2.2.2.2.2.2.2.2.2.1], own := .ro }], dfr := [(55, [.ptr 0 0 none, .ptr 1 0 none])] }
noncomputable def D2 (N : Nat) (β : Type) (x : W12) (ke : W13 → Option β) : Option β :=
 if (((x.2.2.2.2.2.2.2.2.2.1 : Nat) : Int) < (1:Int)) then
  ke (.inl ((List.getD (List.set [0] 0 (8:Int)) 0 0), x.1, x.2.1, x.2.2.1, x.2.2.2.1, x.2.2.2.2.1, x.2.2.2.2.2.1, x.2.2.2.2.2.2.1, x.2.2.2.2.2.2.2.1, x.2.2.2.2.2.2.2.2.1, ()))
 else
  if 0 ≤ (1:Int) then (
  if (1:Int) ≤ ((x.2.2.2.2.2.2.2.2.2.1 : Nat) : Int) then (
  if 0 ≤ (1:Int) then (
  if (1:Int) ≤ ((x.2.2.2.2.2.2.2.2.2.1 : Nat) : Int) then (
  (d0 ((List.take 1 (List.drop 1 x.2.2.2.2.2.2.2.2.2.2.2.2.2.2.1)), ())).bind fun r19 => (
  if ((((x.2.2.2.2.2.2.2.2.2.1 - 1) : Nat) : Int) < (1:Int)) then
   ke (.inl ((List.getD (List.set [0] 0 (8:Int)) 0 0), x.1, (List.set x.2.1 0 (IntKind.i64.wrap r19.1)), x.2.2.1, x.2.2.2.1, x.2.2.2.2.1, x.2.2.2.2.2.1, x.2.2.2.2.2.2.1, x.2.2.2.2.2.2.2.1, x.2.2.2.2.2.2.2.2.1, ()))
  else
   if 0 ≤ (1:Int) then (
   if (1:Int) ≤ (((x.2.2.2.2.2.2.2.2.2.1 - 1) : Nat) : Int) then (
   if 0 ≤ (1:Int) then (
   if (1:Int) ≤ (((x.2.2.2.2.2.2.2.2.2.1 - 1) : Nat) : Int) then (
   (d0 ((List.take 1 (List.drop 2 x.2.2.2.2.2.2.2.2.2.2.2.2.2.2.1)), ())).bind fun r20 => (
   if (((((x.2.2.2.2.2.2.2.2.2.1 - 1) - 1) : Nat) : Int) < (4:Int)) then
    ke (.inl ((List.getD (List.set [0] 0 (8:Int)) 0 0), x.1, (List.set x.2.1 0 (IntKind.i64.wrap r19.1)), (List.set x.2.2.1 0 (IntKind.i64.wrap r20.1)), x.2.2.2.1, x.2.2.2.2.1, x.2.2.2.2.2.1, x.2.2.2.2.2.2.1, x.2.2.2.2.2.2.2.1, x.2.2.2.2.2.2.2.2.1, ()))
   else
    if 0 ≤ (4:Int) then (
    if (4:Int) ≤ ((((x.2.2.2.2.2.2.2.2.2.1 - 1) - 1) : Nat) : Int) then (
    if 0 ≤ (4:Int) then (
    if (4:Int) ≤ ((((x.2.2.2.2.2.2.2.2.2.1 - 1) - 1) : Nat) : Int) then (
    (d0 ((List.take 4 (List.drop 3 x.2.2.2.2.2.2.2.2.2.2.2.2.2.2.1)), ())).bind fun r21 => (
    if ((((((x.2.2.2.2.2.2.2.2.2.1 - 1) - 1) - 4) : Nat) : Int) < (4:Int)) then
     ke (.inl ((List.getD (List.set [0] 0 (8:Int)) 0 0), x.1, (List.set x.2.1 0 (IntKind.i64.wrap r19.1)), (List.set x.2.2.1 0 (IntKind.i64.wrap r20.1)), (List.set x.2.2.2.1 0 (IntKind.u32.wrap r21.1)), x.2.2.2.2.1, x.2.2.2.2.2.1, x.2.2.2.2.2.2.1, x.2.2.2.2.2.2.2.1, x.2.2.2.2.2.2.2.2.1, ()))
    else
     if 0 ≤ (4:Int) then (
     if (4:Int) ≤ (((((x.2.2.2.2.2.2.2.2.2.1 - 1) - 1) - 4) : Nat) : Int) then (
     if 0 ≤ (4:Int) then (
     if (4:Int) ≤ (((((x.2.2.2.2.2.2.2.2.2.1 - 1) - 1) - 4) : Nat) : Int) then (
     (d0 ((List.take 4 (List.drop 7 x.2.2.2.2.2.2.2.2.2.2.2.2.2.2.1)), ())).bind fun r22 => (
     if (((((((x.2.2.2.2.2.2.2.2.2.1 - 1) - 1) - 4) - 4) : Nat) : Int) < (8:Int)) then
      ke (.inl ((List.getD (List.set [0] 0 (8:Int)) 0 0), x.1, (List.set x.2.1 0 (IntKind.i64.wrap r19.1)), (List.set x.2.2.1 0 (IntKind.i64.wrap r20.1)), (List.set x.2.2.2.1 0 (IntKind.u32.wrap r21.1)), (List.set x.2.2.2.2.1 0 (IntKind.u32.wrap r22.1)), x.2.2.2.2.2.1, x.2.2.2.2.2.2.1, x.2.2.2.2.2.2.2.1, x.2.2.2.2.2.2.2.2.1, ()))
     else
      if 0 ≤ (8:Int) then (
      if (8:Int) ≤ ((((((x.2.2.2.2.2.2.2.2.2.1 - 1) - 1) - 4) - 4) : Nat) : Int) then (
      if 0 ≤ (8:Int) then (
      if (8:Int) ≤ ((((((x.2.2.2.2.2.2.2.2.2.1 - 1) - 1) - 4) - 4) : Nat) : Int) then (
      (d0 ((List.take 8 (List.drop 11 x.2.2.2.2.2.2.2.2.2.2.2.2.2.2.1)), ())).bind fun r23 => (
      if ((((((((x.2.2.2.2.2.2.2.2.2.1 - 1) - 1) - 4) - 4) - 8) : Nat) : Int) < (8:Int)) then
       ke (.inl ((List.getD (List.set [0] 0 (8:Int)) 0 0), x.1, (List.set x.2.1 0 (IntKind.i64.wrap r19.1)), (List.set x.2.2.1 0 (IntKind.i64.wrap r20.1)), (List.set x.2.2.2.1 0 (IntKind.u32.wrap r21.1)), (List.set x.2.2.2.2.1 0 (IntKind.u32.wrap r22.1)), (List.set x.2.2.2.2.2.1 0 r23.1), x.2.2.2.2.2.2.1, x.2.2.2.2.2.2.2.1, x.2.2.2.2.2.2.2.2.1, ()))
      else
       if 0 ≤ (8:Int) then (
       if (8:Int) ≤ (((((((x.2.2.2.2.2.2.2.2.2.1 - 1) - 1) - 4) - 4) - 8) : Nat) : Int) then (
       if 0 ≤ (8:Int) then (
       if (8:Int) ≤ (((((((x.2.2.2.2.2.2.2.2.2.1 - 1) - 1) - 4) - 4) - 8) : Nat) : Int) then (
       (d0 ((List.take 8 (List.drop 19 x.2.2.2.2.2.2.2.2.2.2.2.2.2.2.1)), ())).bind fun r24 => (
       if (((((((((x.2.2.2.2.2.2.2.2.2.1 - 1) - 1) - 4) - 4) - 8) - 8) : Nat) : Int) < (2:Int)) then
        ke (.inl ((List.getD (List.set [0] 0 (8:Int)) 0 0), x.1, (List.set x.2.1 0 (IntKind.i64.wrap r19.1)), (List.set x.2.2.1 0 (IntKind.i64.wrap r20.1)), (List.set x.2.2.2.1 0 (IntKind.u32.wrap r21.1)), (List.set x.2.2.2.2.1 0 (IntKind.u32.wrap r22.1)), (List.set (List.set x.2.2.2.2.2.1 0 r23.1) 1 r24.1), x.2.2.2.2.2.2.1, x.2.2.2.2.2.2.2.1, x.2.2.2.2.2.2.2.2.1, ()))
       else
        if 0 ≤ (2:Int) then (
        if (2:Int) ≤ ((((((((x.2.2.2.2.2.2.2.2.2.1 - 1) - 1) - 4) - 4) - 8) - 8) : Nat) : Int) then (
        if 0 ≤ (2:Int) then (
        if (2:Int) ≤ ((((((((x.2.2.2.2.2.2.2.2.2.1 - 1) - 1) - 4) - 4) - 8) - 8) : Nat) : Int) then (
        (d0 ((List.take 2 (List.drop 27 x.2.2.2.2.2.2.2.2.2.2.2.2.2.2.1)), ())).bind fun r25 => (
        if (r25.1 > (IntKind.u64.wrap x.2.2.2.2.2.2.2.2.2.2.2.1)) then
         ke (.inl ((List.getD (List.set [0] 0 (3:Int)) 0 0), x.1, (List.set x.2.1 0 (IntKind.i64.wrap r19.1)), (List.set x.2.2.1 0 (IntKind.i64.wrap r20.1)), (List.set x.2.2.2.1 0 (IntKind.u32.wrap r21.1)), (List.set x.2.2.2.2.1 0 (IntKind.u32.wrap r22.1)), (List.set (List.set x.2.2.2.2.2.1 0 r23.1) 1 r24.1), x.2.2.2.2.2.2.1, x.2.2.2.2.2.2.2.1, x.2.2.2.2.2.2.2.2.1, ()))
        else
         if r25.1 = r25.1 then (
         if (IntKind.i64.wrap r25.1) = (IntKind.i64.wrap r25.1) then (
         if ((((((((((x.2.2.2.2.2.2.2.2.2.1 - 1) - 1) - 4) - 4) - 8) - 8) - 2) : Nat) : Int) < (IntKind.i64.wrap r25.1)) then
          ke (.inl ((List.getD (List.set [0] 0 (8:Int)) 0 0), x.1, (List.set x.2.1 0 (IntKind.i64.wrap r19.1)), (List.set x.2.2.1 0 (IntKind.i64.wrap r20.1)), (List.set x.2.2.2.1 0 (IntKind.u32.wrap r21.1)), (List.set x.2.2.2.2.1 0 (IntKind.u32.wrap r22.1)), (List.set (List.set x.2.2.2.2.2.1 0 r23.1) 1 r24.1), x.2.2.2.2.2.2.1, x.2.2.2.2.2.2.2.1, x.2.2.2.2.2.2.2.2.1, ()))
         else
          if 0 ≤ (IntKind.i64.wrap r25.1) then (
          if (IntKind.i64.wrap r25.1) ≤ (((((((((x.2.2.2.2.2.2.2.2.2.1 - 1) - 1) - 4) - 4) - 8) - 8) - 2) : Nat) : Int) then (
          if 0 ≤ (IntKind.i64.wrap r25.1) then (
          if (IntKind.i64.wrap r25.1) ≤ (((((((((x.2.2.2.2.2.2.2.2.2.1 - 1) - 1) - 4) - 4) - 8) - 8) - 2) : Nat) : Int) then (
          if r25.1 = r25.1 then (
          if (IntKind.i64.wrap r25.1) = (IntKind.i64.wrap r25.1) then (
          (i0 ((List.take ((IntKind.i64.wrap r25.1).toNat) (List.drop 29 x.2.2.2.2.2.2.2.2.2.2.2.2.2.2.1)), ())).bind fun r26 => (
          if r25.1 = r25.1 then (
          if (IntKind.i64.wrap r25.1) = (IntKind.i64.wrap r25.1) then (
          if ((((a02 (((((((x.2.2.2.2.2.2.2.2.2.1 - 1) - 1) - 4) - 4) - 8) - 8) - 2) ((IntKind.i64.wrap r25.1).toNat)) : Nat) : Int) < (2:Int)) then
           ke (.inr (.inl ((List.getD (List.set [0] 0 (8:Int)) 0 0), x.1, (List.set x.2.1 0 (IntKind.i64.wrap r19.1)), (List.set x.2.2.1 0 (IntKind.i64.wrap r20.1)), (List.set x.2.2.2.1 0 (IntKind.u32.wrap r21.1)), (List.set x.2.2.2.2.1 0 (IntKind.u32.wrap r22.1)), (List.set (List.set x.2.2.2.2.2.1 0 r23.1) 1 r24.1), x.2.2.2.2.2.2.1, x.2.2.2.2.2.2.2.1, (List.length r26), x.2.2.2.2.2.2.2.2.1, (List.length r26), r26, ())))
          else
           if 0 ≤ (2:Int) then (
           if (2:Int) ≤ (((a02 (((((((x.2.2.2.2.2.2.2.2.2.1 - 1) - 1) - 4) - 4) - 8) - 8) - 2) ((IntKind.i64.wrap r25.1).toNat)) : Nat) : Int) then (
           if 0 ≤ (2:Int) then (
           if (2:Int) ≤ (((a02 (((((((x.2.2.2.2.2.2.2.2.2.1 - 1) - 1) - 4) - 4) - 8) - 8) - 2) ((IntKind.i64.wrap r25.1).toNat)) : Nat) : Int) then (
           (d0 ((List.take 2 (List.drop (a40 (29 + ((IntKind.i64.wrap r25.1).toNat)) 0) x.2.2.2.2.2.2.2.2.2.2.2.2.2.2.1)), ())).bind fun r27 => (
           if (r27.1 > (IntKind.u64.wrap x.2.2.2.2.2.2.2.2.2.2.2.2.1)) then
            ke (.inr (.inl ((List.getD (List.set [0] 0 (3:Int)) 0 0), x.1, (List.set x.2.1 0 (IntKind.i64.wrap r19.1)), (List.set x.2.2.1 0 (IntKind.i64.wrap r20.1)), (List.set x.2.2.2.1 0 (IntKind.u32.wrap r21.1)), (List.set x.2.2.2.2.1 0 (IntKind.u32.wrap r22.1)), (List.set (List.set x.2.2.2.2.2.1 0 r23.1) 1 r24.1), x.2.2.2.2.2.2.1, x.2.2.2.2.2.2.2.1, (List.length r26), x.2.2.2.2.2.2.2.2.1, (List.length r26), r26, ())))
           else
            if r27.1 = r27.1 then (
            if (IntKind.i64.wrap r27.1) = (IntKind.i64.wrap r27.1) then (
            if (((((a02 (((((((x.2.2.2.2.2.2.2.2.2.1 - 1) - 1) - 4) - 4) - 8) - 8) - 2) ((IntKind.i64.wrap r25.1).toNat)) - 2) : Nat) : Int) < (IntKind.i64.wrap r27.1)) then
             ke (.inr (.inl ((List.getD (List.set [0] 0 (8:Int)) 0 0), x.1, (List.set x.2.1 0 (IntKind.i64.wrap r19.1)), (List.set x.2.2.1 0 (IntKind.i64.wrap r20.1)), (List.set x.2.2.2.1 0 (IntKind.u32.wrap r21.1)), (List.set x.2.2.2.2.1 0 (IntKind.u32.wrap r22.1)), (List.set (List.set x.2.2.2.2.2.1 0 r23.1) 1 r24.1), x.2.2.2.2.2.2.1, x.2.2.2.2.2.2.2.1, (List.length r26), x.2.2.2.2.2.2.2.2.1, (List.length r26), r26, ())))
            else
             if 0 ≤ (IntKind.i64.wrap r27.1) then (
             if (IntKind.i64.wrap r27.1) ≤ ((((a02 (((((((x.2.2.2.2.2.2.2.2.2.1 - 1) - 1) - 4) - 4) - 8) - 8) - 2) ((IntKind.i64.wrap r25.1).toNat)) - 2) : Nat) : Int) then (
             if 0 ≤ (IntKind.i64.wrap r27.1) then (
             if (IntKind.i64.wrap r27.1) ≤ ((((a02 (((((((x.2.2.2.2.2.2.2.2.2.1 - 1) - 1) - 4) - 4) - 8) - 8) - 2) ((IntKind.i64.wrap r25.1).toNat)) - 2) : Nat) : Int) then (
             if r27.1 = r27.1 then (
             if (IntKind.i64.wrap r27.1) = (IntKind.i64.wrap r27.1) then (
             (i0 ((List.take ((IntKind.i64.wrap r27.1).toNat) (List.drop (a40 (a40 (29 + ((IntKind.i64.wrap r25.1).toNat)) 2) 0) x.2.2.2.2.2.2.2.2.2.2.2.2.2.2.1)), ())).bind fun r28 => (
             if r27.1 = r27.1 then (
             if (IntKind.i64.wrap r27.1) = (IntKind.i64.wrap r27.1) then (
             ke (.inr (.inr (x.1, (List.set x.2.1 0 (IntKind.i64.wrap r19.1)), (List.set x.2.2.1 0 (IntKind.i64.wrap r20.1)), (List.set x.2.2.2.1 0 (IntKind.u32.wrap r21.1)), (List.set x.2.2.2.2.1 0 (IntKind.u32.wrap r22.1)), (List.set (List.set x.2.2.2.2.2.1 0 r23.1) 1 r24.1), x.2.2.2.2.2.2.1, x.2.2.2.2.2.2.2.1, (List.length r26), (List.length r28), x.2.2.2.2.2.2.2.2.1, (a40 (a40 (29 + ((IntKind.i64.wrap r25.1).toNat)) 2) ((IntKind.i64.wrap r27.1).toNat)), (a02 ((a02 (((((((x.2.2.2.2.2.2.2.2.2.1 - 1) - 1) - 4) - 4) - 8) - 8) - 2) ((IntKind.i64.wrap r25.1).toNat)) - 2) ((IntKind.i64.wrap r27.1).toNat)), (a02 ((a02 (((((((x.2.2.2.2.2.2.2.2.2.2.1 - 1) - 1) - 4) - 4) - 8) - 8) - 2) ((IntKind.i64.wrap r25.1).toNat)) - 2) ((IntKind.i64.wrap r27.1).toNat)), (List.length r26), r26, (List.length r28), r28, x.2.2.2.2.2.2.2.2.2.2.2.2.2.1, x.2.2.2.2.2.2.2.2.2.2.2.2.2.2.1, ())))) else none) else none)) else none) else none) else none) else none) else none) else none) else none) else none)) else none) else none) else none) else none) else none) else none)) else none) else none) else none) else none) else none) else none) else none) else none)) else none) else none) else none) else none)) else none) else none) else none) else none)) else none) else none) else none) else none)) else none) else none) else none) else none)) else none) else none) else none) else none)) else none) else none) else none) else none)) else none) else none) else none) else none
noncomputable def X8 : Go' W13 := fun y K => match y with
 | .inl y => K (.pan (.ifg 64 .i64) y.1) (fSt { tmps := V :: V :: .sc (.ptr 0 0 false) :: .sc (.ptr 1 0 false) :: pv 44 [], mem := [.live [.xs b64 (some 1), .xs b64 (some 1), .xs b64 (some 1), .xs (.int .u32) (some 1), .xs (.int .u32) (some 1), .xs (.int .u64) (some 2), .xs b64 (some 1), .xs b64 (some 1), .one (.nilsl), .one (.nilsl), .one (.nilsl)] (.own), .live [.xs b64 (some 1)] (.own)], dfr := [(55, [.ptr 0 0 false, .ptr 1 0 false])] } [.xs, .xs, .xs, .xs, .xs, .xs, .xs, .xs, .xs] y.2)
 | .inr (.inl y) => K (.pan (.ifg 64 .i64) y.1) (fSt { tmps := V :: V :: .sc (.ptr 0 0 false) :: .sc (.ptr 1 0 false) :: pv 44 [], mem := [.live [.xs b64 (some 1), .xs b64 (some 1), .xs b64 (some 1), .xs (.int .u32) (some 1), .xs (.int .u32) (some 1), .xs (.int .u64) (some 2), .xs b64 (some 1), .xs b64 (some 1), .one (.nilsl), .one (.vec 2 none 1), .one (.nilsl)] (.own), .live [.xs b64 (some 1)] (.own), .live [.xs b8 none] (.own)], dfr := [(55, [.ptr 0 0 false, .ptr 1 0 false])] } [.xs, .xs, .xs, .xs, .xs, .xs, .xs, .xs, .nat, .xs, .nat, .xs] y.2)
 | .inr (.inr y) => K .normal (fSt { tmps := V :: V :: .sc (.ptr 0 0 false) :: .sc (.ptr 1 0 false) :: .sc (.ptr 2 0 false) :: pv 43 [], mem := [.live [.xs b64 (some 1), .xs b64 (some 1), .xs b64 (some 1), .xs (.int .u32) (some 1), .xs (.int .u32) (some 1), .xs (.int .u64) (some 2), .xs b64 (some 1), .xs b64 (some 1), .one (.nilsl), .one (.vec 3 none 1), .one (.vec 4 none 1)] (.own), .live [.xs b64 (some 1)] (.own), .live [.one (.sl 5 none none none 1)] (.own), .live [.xs b8 none] (.own), .live [.xs b8 none] (.own), .live [.xs b8 none] (.ro)], dfr := [(55, [.ptr 0 0 false, .ptr 1 0 false])] } [.xs, .xs, .xs, .xs, .xs, .xs, .xs, .xs, .nat, .nat, .xs, .nat, .nat, .nat, .nat, .xs, .nat, .xs, .nat, .xs] y)
theorem a5d (N : Nat) : EntryOk p_msg_Get_E k9 N (I1 K5 (D2 N) X8) (.seq (S4 8000007 d7) (G1 8000007 d7)) :=
 a5B (body := d7) (k := 7) (OkAll.nil) (by kernel_rfl) (fun x => by kernel_rfl) (fun β x K => by kernel_rfl)
noncomputable def G9 : Shape := mkS { tmps := V :: V :: .sc (.ptr 0 0 false) :: .sc (.ptr 1 0 false) :: .sc (.ptr 2 0 false) :: pv 43 [], mem := [.live [.xs b64 (some 1), .xs b64 (some 1), .xs b64 (some 1), .xs (.int .u32) (some 1), .xs (.int .u32) (some 1), .xs (.int .u64) (some 2), .xs b64 (some 1), .xs b64 (some 1), .one (.nilsl), .one (.vec 3 none 1), .one (.vec 4 none 1)] (.own), .live [.xs b64 (some 1)] (.own), .live [.one (.sl 5 none none none 1)] (.own), .live [.xs b8 none] (.own), .live [.xs b8 none] (.own), .live [.xs b8 none] (.ro)], dfr := [(55, [.ptr 0 0 false, .ptr 1 0 false])] } [.xs, .xs, .xs, .xs, .xs, .xs, .xs, .xs, .nat, .nat, .xs, .nat, .nat, .nat, .nat, .xs, .nat, .xs, .nat, .xs]
noncomputable def A4 (N : Nat) (β : Type) (x : W14) (ke : W15 → Option β) : Option β :=
 if (((x.2.2.2.2.2.2.2.2.2.2.2.2.1 : Nat) : Int) > (0:Int)) then
  ke (.inl ((List.getD (List.set [0] 0 (212:Int)) 0 0), x.1, x.2.1, x.2.2.1, x.2.2.2.1, x.2.2.2.2.1, x.2.2.2.2.2.1, x.2.2.2.2.2.2.1, x.2.2.2.2.2.2.2.1, x.2.2.2.2.2.2.2.2.1, x.2.2.2.2.2.2.2.2.2.1, x.2.2.2.2.2.2.2.2.2.2.1, x.2.2.2.2.2.2.2.2.2.2.2.2.2.2.1, x.2.2.2.2.2.2.2.2.2.2.2.2.2.2.2.1, x.2.2.2.2.2.2.2.2.2.2.2.2.2.2.2.2.1, x.2.2.2.2.2.2.2.2.2.2.2.2.2.2.2.2.2.1, ()))
 else
  (u2 (((List.getD x.1 0 0), (List.getD x.2.1 0 0), (List.getD x.2.2.1 0 0), (List.getD x.2.2.2.1 0 0), (List.getD x.2.2.2.2.1 0 0), (List.getD (List.take 1 x.2.2.2.2.2.1) 0 0), (List.getD (List.drop 1 x.2.2.2.2.2.1) 0 0), (List.getD x.2.2.2.2.2.2.1 0 0), (List.getD x.2.2.2.2.2.2.2.1 0 0), [], x.2.2.2.2.2.2.2.2.2.2.2.2.2.2.2.1, x.2.2.2.2.2.2.2.2.2.2.2.2.2.2.2.2.2.1, ()), ())).bind fun r32 => (
  if (r32 ≠ (0:Int)) then
   ke (.inl ((List.getD (List.set [0] 0 r32) 0 0), x.1, x.2.1, x.2.2.1, x.2.2.2.1, x.2.2.2.2.1, x.2.2.2.2.2.1, x.2.2.2.2.2.2.1, x.2.2.2.2.2.2.2.1, x.2.2.2.2.2.2.2.2.1, x.2.2.2.2.2.2.2.2.2.1, x.2.2.2.2.2.2.2.2.2.2.1, x.2.2.2.2.2.2.2.2.2.2.2.2.2.2.1, x.2.2.2.2.2.2.2.2.2.2.2.2.2.2.2.1, x.2.2.2.2.2.2.2.2.2.2.2.2.2.2.2.2.1, x.2.2.2.2.2.2.2.2.2.2.2.2.2.2.2.2.2.1, ()))
  else
   ke (.inr (x.1, x.2.1, x.2.2.1, x.2.2.2.1, x.2.2.2.2.1, x.2.2.2.2.2.1, x.2.2.2.2.2.2.1, x.2.2.2.2.2.2.2.1, x.2.2.2.2.2.2.2.2.1, x.2.2.2.2.2.2.2.2.2.1, (List.set x.2.2.2.2.2.2.2.2.2.2.1 0 (0:Int)), x.2.2.2.2.2.2.2.2.2.2.2.2.2.2.1, x.2.2.2.2.2.2.2.2.2.2.2.2.2.2.2.1, x.2.2.2.2.2.2.2.2.2.2.2.2.2.2.2.2.1, x.2.2.2.2.2.2.2.2.2.2.2.2.2.2.2.2.2.1, ())))
noncomputable def R0 : Go' W15 := fun y K => match y with
 | .inl y => K (.pan (.ifg 64 .i64) y.1) (fSt { tmps := V :: V :: .sc (.ptr 0 0 false) :: .sc (.ptr 1 0 false) :: pv 44 [], mem := [.live [.xs b64 (some 1), .xs b64 (some 1), .xs b64 (some 1), .xs (.int .u32) (some 1), .xs (.int .u32) (some 1), .xs (.int .u64) (some 2), .xs b64 (some 1), .xs b64 (some 1), .one (.nilsl), .one (.vec 2 none 1), .one (.vec 3 none 1)] (.own), .live [.xs b64 (some 1)] (.own), .live [.xs b8 none] (.own), .live [.xs b8 none] (.own)], dfr := [(55, [.ptr 0 0 false, .ptr 1 0 false])] } [.xs, .xs, .xs, .xs, .xs, .xs, .xs, .xs, .nat, .nat, .xs, .nat, .xs, .nat, .xs] y.2)
 | .inr y => K .ret (fSt { tmps := V :: V :: .sc (.ptr 0 0 false) :: .sc (.ptr 1 0 false) :: pv 44 [], mem := [.live [.xs b64 (some 1), .xs b64 (some 1), .xs b64 (some 1), .xs (.int .u32) (some 1), .xs (.int .u32) (some 1), .xs (.int .u64) (some 2), .xs b64 (some 1), .xs b64 (some 1), .one (.nilsl), .one (.vec 2 none 1), .one (.vec 3 none 1)] (.own), .live [.xs b64 (some 1)] (.own), .live [.xs b8 none] (.own), .live [.xs b8 none] (.own)], dfr := [(55, [.ptr 0 0 false, .ptr 1 0 false])] } [.xs, .xs, .xs, .xs, .xs, .xs, .xs, .xs, .nat, .nat, .xs, .nat, .xs, .nat, .xs] y)
theorem a4g (N : Nat) : EntryOk p_msg_Get_E k9 N (I1 G9 (A4 N) R0) (.seq (S4 8000011 d7) (G1 8000011 d7)) :=
 a5B (body := d7) (k := 11) (OkAll.nil) (by kernel_rfl) (fun x => by kernel_rfl) (fun β x K => by kernel_rfl)
end Go.Ax.TryP
set_option linter.unusedVariables false
namespace Go.Ax.TryP
open Go.Proofs
noncomputable def K6 : Shape where
 h := { tmps := [V, V, .sc (.ptr 0 0 false), .sc (.ptr 1 0 false), .sc (.ptr 2 0 false), V, V, V, V, V, V, V, V, V, V, V, V, V, V, V, V, V, .sc (.vec 3 (some 6) 1), .sc (.lit .i64 (6)), .sc (.lit .i64 (0)), V, V, V, V, V, V, V, V, V, V, V, V, V, V, V, V, V, V, V, V, V, V, V], mem := [.live [.xs b64 (some 1), .xs b64 (some 1), .xs b64 (some 1), .xs (.int .u32) (some 1), .xs (.int .u32) (some 1), .xs (.int .u64) (some 2), .xs b64 (some 1), .xs b64 (some 1), .one (.nilsl), .one (.nilsl), .one (.nilsl)] (.own), .live [.xs b64 (some 1)] (.own), .live [.one (.sl 4 (some 1) none none 1)] (.own), .live [.one (.ifp 95 0 1), .one (.ifp 95 0 2), .one (.ifp 98 0 3), .one (.ifp 102 0 7), .one (.ifp 102 0 8), .one (.ifq 81 0 9 .i64)] (.own), .live [.xs b8 none] (.ro)], dfr := [(55, [.ptr 0 0 false, .ptr 1 0 false])] }
 ks := [.xs, .xs, .xs, .xs, .xs, .xs, .xs, .xs, .xs, .nat, .nat, .int, .nat, .xs]
 st := fun x => { tmps := [U, U, .one (.sc (.ptr 0 0 none)), .one (.sc (.ptr 1 0 none)), .one (.sc (.ptr 2 0 none)), U, U, U, U, U, U, U, U, U, U, U, U, U, U, U, U, U, .one (.sc (.vec 3 6 1)), .one (.sc (.int .i64 (6:Int))), .one (.sc (.int .i64 (0:Int))), U, U, U, U, U, U, U, U, U, U, U, U, U, U, U, U, U, U, U, U, U, U, U], mem := [.live { segs := [.xs b64 1 x.1, .xs b64 1 x.2.1, .xs b64 1 x.2.2.1, .xs (.int .u32) 1 x.2.2.2.1, .xs (.int .u32) 1 x.2.2.2.2.1, .xs (.int .u64) 2 x.2.2.2.2.2.1, .xs b64 1 x.2.2.2.2.2.2.1, .xs b64 1 x.2.2.2.2.2.2.2.1, .one (.nilsl), .one (.nilsl), .one (.nilsl)], own := .own }, .live { segs := [.xs b64 1 x.2.2.2.2.2.2.2.2.1], own := .own }, .live { segs := [.one (.sl 4 1 x.2.2.2.2.2.2.2.2.2.1 x.2.2.2.2.2.2.2.2.2.2.1 1)], own := .own }, .live { segs := [.one (.ifp 95 0 1), .one (.ifp 95 0 2), .one (.ifp 98 0 3), .one (.ifp 102 0 7), .one (.ifp 102 0 8), .one (.ifq 81 0 9 .i64 x.2.2.2.2.2.2.2.2.2.2.2.1)], own := .own }, .live { segs := [.xs b8 x.2.2.2.2.2.2.2.2.2.2.2.2.1 x.2.2.2.2.2.2.2.2.2.2.2.2.2.1], own := .ro }], dfr := [(55, [.ptr 0 0 none, .ptr 1 0 none])] }
abbrev W16 : Type := List Int × List Int × List Int × List Int × List Int × List Int × List Int × List Int × List Int × Nat × Nat × Int × Nat × List Int × Unit
abbrev W17 : Type := (Int × List Int × List Int × List Int × List Int × List Int × List Int × List Int × List Int × List Int × Unit) ⊕ (List Int × List Int × List Int × List Int × List Int × List Int × List Int × List Int × Nat × List Int × Nat × Nat × Nat × Nat × List Int × Nat × List Int × Unit)
noncomputable def D3 (N : Nat) (β : Type) (x : W16) (ke : W17 → Option β) : Option β :=
 if (((x.2.2.2.2.2.2.2.2.2.1 : Nat) : Int) < (1:Int)) then
  ke (.inl ((List.getD (List.set [0] 0 (8:Int)) 0 0), x.1, x.2.1, x.2.2.1, x.2.2.2.1, x.2.2.2.2.1, x.2.2.2.2.2.1, x.2.2.2.2.2.2.1, x.2.2.2.2.2.2.2.1, x.2.2.2.2.2.2.2.2.1, ()))
 else
  if 0 ≤ (1:Int) then (
  if (1:Int) ≤ ((x.2.2.2.2.2.2.2.2.2.1 : Nat) : Int) then (
  if 0 ≤ (1:Int) then (
  if (1:Int) ≤ ((x.2.2.2.2.2.2.2.2.2.1 : Nat) : Int) then (
  (d0 ((List.take 1 (List.drop 1 x.2.2.2.2.2.2.2.2.2.2.2.2.2.1)), ())).bind fun r35 => (
  if ((((x.2.2.2.2.2.2.2.2.2.1 - 1) : Nat) : Int) < (1:Int)) then
   ke (.inl ((List.getD (List.set [0] 0 (8:Int)) 0 0), x.1, (List.set x.2.1 0 (IntKind.i64.wrap r35.1)), x.2.2.1, x.2.2.2.1, x.2.2.2.2.1, x.2.2.2.2.2.1, x.2.2.2.2.2.2.1, x.2.2.2.2.2.2.2.1, x.2.2.2.2.2.2.2.2.1, ()))
  else
   if 0 ≤ (1:Int) then (
   if (1:Int) ≤ (((x.2.2.2.2.2.2.2.2.2.1 - 1) : Nat) : Int) then (
   if 0 ≤ (1:Int) then (
   if (1:Int) ≤ (((x.2.2.2.2.2.2.2.2.2.1 - 1) : Nat) : Int) then (
   (d0 ((List.take 1 (List.drop 2 x.2.2.2.2.2.2.2.2.2.2.2.2.2.1)), ())).bind fun r36 => (
   if (((((x.2.2.2.2.2.2.2.2.2.1 - 1) - 1) : Nat) : Int) < (4:Int)) then
    ke (.inl ((List.getD (List.set [0] 0 (8:Int)) 0 0), x.1, (List.set x.2.1 0 (IntKind.i64.wrap r35.1)), (List.set x.2.2.1 0 (IntKind.i64.wrap r36.1)), x.2.2.2.1, x.2.2.2.2.1, x.2.2.2.2.2.1, x.2.2.2.2.2.2.1, x.2.2.2.2.2.2.2.1, x.2.2.2.2.2.2.2.2.1, ()))
   else
    if 0 ≤ (4:Int) then (
    if (4:Int) ≤ ((((x.2.2.2.2.2.2.2.2.2.1 - 1) - 1) : Nat) : Int) then (
    if 0 ≤ (4:Int) then (
    if (4:Int) ≤ ((((x.2.2.2.2.2.2.2.2.2.1 - 1) - 1) : Nat) : Int) then (
    (d0 ((List.take 4 (List.drop 3 x.2.2.2.2.2.2.2.2.2.2.2.2.2.1)), ())).bind fun r37 => (
    if ((((((x.2.2.2.2.2.2.2.2.2.1 - 1) - 1) - 4) : Nat) : Int) < (2:Int)) then
     ke (.inl ((List.getD (List.set [0] 0 (8:Int)) 0 0), x.1, (List.set x.2.1 0 (IntKind.i64.wrap r35.1)), (List.set x.2.2.1 0 (IntKind.i64.wrap r36.1)), (List.set x.2.2.2.1 0 (IntKind.u32.wrap r37.1)), x.2.2.2.2.1, x.2.2.2.2.2.1, x.2.2.2.2.2.2.1, x.2.2.2.2.2.2.2.1, x.2.2.2.2.2.2.2.2.1, ()))
    else
     if 0 ≤ (2:Int) then (
     if (2:Int) ≤ (((((x.2.2.2.2.2.2.2.2.2.1 - 1) - 1) - 4) : Nat) : Int) then (
     if 0 ≤ (2:Int) then (
     if (2:Int) ≤ (((((x.2.2.2.2.2.2.2.2.2.1 - 1) - 1) - 4) : Nat) : Int) then (
     (d0 ((List.take 2 (List.drop 7 x.2.2.2.2.2.2.2.2.2.2.2.2.2.1)), ())).bind fun r38 => (
     if (((((((x.2.2.2.2.2.2.2.2.2.1 - 1) - 1) - 4) - 2) : Nat) : Int) < (2:Int)) then
      ke (.inl ((List.getD (List.set [0] 0 (8:Int)) 0 0), x.1, (List.set x.2.1 0 (IntKind.i64.wrap r35.1)), (List.set x.2.2.1 0 (IntKind.i64.wrap r36.1)), (List.set x.2.2.2.1 0 (IntKind.u32.wrap r37.1)), x.2.2.2.2.1, x.2.2.2.2.2.1, (List.set x.2.2.2.2.2.2.1 0 (IntKind.i64.wrap r38.1)), x.2.2.2.2.2.2.2.1, x.2.2.2.2.2.2.2.2.1, ()))
     else
      if 0 ≤ (2:Int) then (
      if (2:Int) ≤ ((((((x.2.2.2.2.2.2.2.2.2.1 - 1) - 1) - 4) - 2) : Nat) : Int) then (
      if 0 ≤ (2:Int) then (
      if (2:Int) ≤ ((((((x.2.2.2.2.2.2.2.2.2.1 - 1) - 1) - 4) - 2) : Nat) : Int) then (
      (d0 ((List.take 2 (List.drop 9 x.2.2.2.2.2.2.2.2.2.2.2.2.2.1)), ())).bind fun r39 => (
      if ((((((((x.2.2.2.2.2.2.2.2.2.1 - 1) - 1) - 4) - 2) - 2) : Nat) : Int) < (2:Int)) then
       ke (.inl ((List.getD (List.set [0] 0 (8:Int)) 0 0), x.1, (List.set x.2.1 0 (IntKind.i64.wrap r35.1)), (List.set x.2.2.1 0 (IntKind.i64.wrap r36.1)), (List.set x.2.2.2.1 0 (IntKind.u32.wrap r37.1)), x.2.2.2.2.1, x.2.2.2.2.2.1, (List.set x.2.2.2.2.2.2.1 0 (IntKind.i64.wrap r38.1)), (List.set x.2.2.2.2.2.2.2.1 0 (IntKind.i64.wrap r39.1)), x.2.2.2.2.2.2.2.2.1, ()))
      else
       if 0 ≤ (2:Int) then (
       if (2:Int) ≤ (((((((x.2.2.2.2.2.2.2.2.2.1 - 1) - 1) - 4) - 2) - 2) : Nat) : Int) then (
       if 0 ≤ (2:Int) then (
       if (2:Int) ≤ (((((((x.2.2.2.2.2.2.2.2.2.1 - 1) - 1) - 4) - 2) - 2) : Nat) : Int) then (
       (d0 ((List.take 2 (List.drop 11 x.2.2.2.2.2.2.2.2.2.2.2.2.2.1)), ())).bind fun r40 => (
       if (r40.1 > (IntKind.u64.wrap x.2.2.2.2.2.2.2.2.2.2.2.1)) then
        ke (.inl ((List.getD (List.set [0] 0 (3:Int)) 0 0), x.1, (List.set x.2.1 0 (IntKind.i64.wrap r35.1)), (List.set x.2.2.1 0 (IntKind.i64.wrap r36.1)), (List.set x.2.2.2.1 0 (IntKind.u32.wrap r37.1)), x.2.2.2.2.1, x.2.2.2.2.2.1, (List.set x.2.2.2.2.2.2.1 0 (IntKind.i64.wrap r38.1)), (List.set x.2.2.2.2.2.2.2.1 0 (IntKind.i64.wrap r39.1)), x.2.2.2.2.2.2.2.2.1, ()))
       else
        if r40.1 = r40.1 then (
        if (IntKind.i64.wrap r40.1) = (IntKind.i64.wrap r40.1) then (
        if (((((((((x.2.2.2.2.2.2.2.2.2.1 - 1) - 1) - 4) - 2) - 2) - 2) : Nat) : Int) < (IntKind.i64.wrap r40.1)) then
         ke (.inl ((List.getD (List.set [0] 0 (8:Int)) 0 0), x.1, (List.set x.2.1 0 (IntKind.i64.wrap r35.1)), (List.set x.2.2.1 0 (IntKind.i64.wrap r36.1)), (List.set x.2.2.2.1 0 (IntKind.u32.wrap r37.1)), x.2.2.2.2.1, x.2.2.2.2.2.1, (List.set x.2.2.2.2.2.2.1 0 (IntKind.i64.wrap r38.1)), (List.set x.2.2.2.2.2.2.2.1 0 (IntKind.i64.wrap r39.1)), x.2.2.2.2.2.2.2.2.1, ()))
        else
         if 0 ≤ (IntKind.i64.wrap r40.1) then (
         if (IntKind.i64.wrap r40.1) ≤ ((((((((x.2.2.2.2.2.2.2.2.2.1 - 1) - 1) - 4) - 2) - 2) - 2) : Nat) : Int) then (
         if 0 ≤ (IntKind.i64.wrap r40.1) then (
         if (IntKind.i64.wrap r40.1) ≤ ((((((((x.2.2.2.2.2.2.2.2.2.1 - 1) - 1) - 4) - 2) - 2) - 2) : Nat) : Int) then (
         if r40.1 = r40.1 then (
         if (IntKind.i64.wrap r40.1) = (IntKind.i64.wrap r40.1) then (
         (i0 ((List.take ((IntKind.i64.wrap r40.1).toNat) (List.drop 13 x.2.2.2.2.2.2.2.2.2.2.2.2.2.1)), ())).bind fun r41 => (
         if r40.1 = r40.1 then (
         if (IntKind.i64.wrap r40.1) = (IntKind.i64.wrap r40.1) then (
         ke (.inr (x.1, (List.set x.2.1 0 (IntKind.i64.wrap r35.1)), (List.set x.2.2.1 0 (IntKind.i64.wrap r36.1)), (List.set x.2.2.2.1 0 (IntKind.u32.wrap r37.1)), x.2.2.2.2.1, x.2.2.2.2.2.1, (List.set x.2.2.2.2.2.2.1 0 (IntKind.i64.wrap r38.1)), (List.set x.2.2.2.2.2.2.2.1 0 (IntKind.i64.wrap r39.1)), (List.length r41), x.2.2.2.2.2.2.2.2.1, (13 + ((IntKind.i64.wrap r40.1).toNat)), (a02 ((((((x.2.2.2.2.2.2.2.2.2.1 - 1) - 1) - 4) - 2) - 2) - 2) ((IntKind.i64.wrap r40.1).toNat)), (a02 ((((((x.2.2.2.2.2.2.2.2.2.2.1 - 1) - 1) - 4) - 2) - 2) - 2) ((IntKind.i64.wrap r40.1).toNat)), (List.length r41), r41, x.2.2.2.2.2.2.2.2.2.2.2.2.1, x.2.2.2.2.2.2.2.2.2.2.2.2.2.1, ()))) else none) else none)) else none) else none) else none) else none) else none) else none) else none) else none)) else none) else none) else none) else none)) else none) else none) else none) else none)) else none) else none) else none) else none)) else none) else none) else none) else none)) else none) else none) else none) else none)) else none) else none) else none) else none
noncomputable def X9 : Go' W17 := fun y K => match y with
 | .inl y => K (.pan (.ifg 64 .i64) y.1) (fSt { tmps := V :: V :: .sc (.ptr 0 0 false) :: .sc (.ptr 1 0 false) :: pv 44 [], mem := [.live [.xs b64 (some 1), .xs b64 (some 1), .xs b64 (some 1), .xs (.int .u32) (some 1), .xs (.int .u32) (some 1), .xs (.int .u64) (some 2), .xs b64 (some 1), .xs b64 (some 1), .one (.nilsl), .one (.nilsl), .one (.nilsl)] (.own), .live [.xs b64 (some 1)] (.own)], dfr := [(55, [.ptr 0 0 false, .ptr 1 0 false])] } [.xs, .xs, .xs, .xs, .xs, .xs, .xs, .xs, .xs] y.2)
 | .inr y => K .normal (fSt { tmps := V :: V :: .sc (.ptr 0 0 false) :: .sc (.ptr 1 0 false) :: .sc (.ptr 2 0 false) :: pv 43 [], mem := [.live [.xs b64 (some 1), .xs b64 (some 1), .xs b64 (some 1), .xs (.int .u32) (some 1), .xs (.int .u32) (some 1), .xs (.int .u64) (some 2), .xs b64 (some 1), .xs b64 (some 1), .one (.vec 3 none 1), .one (.nilsl), .one (.nilsl)] (.own), .live [.xs b64 (some 1)] (.own), .live [.one (.sl 4 none none none 1)] (.own), .live [.xs b8 none] (.own), .live [.xs b8 none] (.ro)], dfr := [(55, [.ptr 0 0 false, .ptr 1 0 false])] } [.xs, .xs, .xs, .xs, .xs, .xs, .xs, .xs, .nat, .xs, .nat, .nat, .nat, .nat, .xs, .nat, .xs] y)
theorem a5e (N : Nat) : EntryOk p_msg_Get_E k9 N (I1 K6 (D3 N) X9) (.seq (S4 8000007 d7) (G1 8000007 d7)) :=
 a5B (body := d7) (k := 7) (OkAll.nil) (by kernel_rfl) (fun x => by kernel_rfl) (fun β x K => by kernel_rfl)
noncomputable def H0 : Shape := mkS { tmps := V :: V :: .sc (.ptr 0 0 false) :: .sc (.ptr 1 0 false) :: .sc (.ptr 2 0 false) :: pv 43 [], mem := [.live [.xs b64 (some 1), .xs b64 (some 1), .xs b64 (some 1), .xs (.int .u32) (some 1), .xs (.int .u32) (some 1), .xs (.int .u64) (some 2), .xs b64 (some 1), .xs b64 (some 1), .one (.vec 3 none 1), .one (.nilsl), .one (.nilsl)] (.own), .live [.xs b64 (some 1)] (.own), .live [.one (.sl 4 none none none 1)] (.own), .live [.xs b8 none] (.own), .live [.xs b8 none] (.ro)], dfr := [(55, [.ptr 0 0 false, .ptr 1 0 false])] } [.xs, .xs, .xs, .xs, .xs, .xs, .xs, .xs, .nat, .xs, .nat, .nat, .nat, .nat, .xs, .nat, .xs]
abbrev W18 : Type := List Int × List Int × List Int × List Int × List Int × List Int × List Int × List Int × Nat × List Int × Nat × Nat × Nat × Nat × List Int × Nat × List Int × Unit
abbrev W19 : Type := (Int × List Int × List Int × List Int × List Int × List Int × List Int × List Int × List Int × Nat × List Int × Nat × List Int × Unit) ⊕ (List Int × List Int × List Int × List Int × List Int × List Int × List Int × List Int × Nat × List Int × Nat × List Int × Unit)
noncomputable def o7 (N : Nat) (β : Type) (x : W18) (ke : W19 → Option β) : Option β :=
 if (((x.2.2.2.2.2.2.2.2.2.2.2.1 : Nat) : Int) > (0:Int)) then
  ke (.inl ((List.getD (List.set [0] 0 (212:Int)) 0 0), x.1, x.2.1, x.2.2.1, x.2.2.2.1, x.2.2.2.2.1, x.2.2.2.2.2.1, x.2.2.2.2.2.2.1, x.2.2.2.2.2.2.2.1, x.2.2.2.2.2.2.2.2.1, x.2.2.2.2.2.2.2.2.2.1, x.2.2.2.2.2.2.2.2.2.2.2.2.2.1, x.2.2.2.2.2.2.2.2.2.2.2.2.2.2.1, ()))
 else
  (u2 (((List.getD x.1 0 0), (List.getD x.2.1 0 0), (List.getD x.2.2.1 0 0), (List.getD x.2.2.2.1 0 0), (List.getD x.2.2.2.2.1 0 0), (List.getD (List.take 1 x.2.2.2.2.2.1) 0 0), (List.getD (List.drop 1 x.2.2.2.2.2.1) 0 0), (List.getD x.2.2.2.2.2.2.1 0 0), (List.getD x.2.2.2.2.2.2.2.1 0 0), x.2.2.2.2.2.2.2.2.2.2.2.2.2.2.1, [], [], ()), ())).bind fun r44 => (
  if (r44 ≠ (0:Int)) then
   ke (.inl ((List.getD (List.set [0] 0 r44) 0 0), x.1, x.2.1, x.2.2.1, x.2.2.2.1, x.2.2.2.2.1, x.2.2.2.2.2.1, x.2.2.2.2.2.2.1, x.2.2.2.2.2.2.2.1, x.2.2.2.2.2.2.2.2.1, x.2.2.2.2.2.2.2.2.2.1, x.2.2.2.2.2.2.2.2.2.2.2.2.2.1, x.2.2.2.2.2.2.2.2.2.2.2.2.2.2.1, ()))
  else
   ke (.inr (x.1, x.2.1, x.2.2.1, x.2.2.2.1, x.2.2.2.2.1, x.2.2.2.2.2.1, x.2.2.2.2.2.2.1, x.2.2.2.2.2.2.2.1, x.2.2.2.2.2.2.2.2.1, (List.set x.2.2.2.2.2.2.2.2.2.1 0 (0:Int)), x.2.2.2.2.2.2.2.2.2.2.2.2.2.1, x.2.2.2.2.2.2.2.2.2.2.2.2.2.2.1, ())))
noncomputable def R1 : Go' W19 := fun y K => match y with
 | .inl y => K (.pan (.ifg 64 .i64) y.1) (fSt { tmps := V :: V :: .sc (.ptr 0 0 false) :: .sc (.ptr 1 0 false) :: pv 44 [], mem := [.live [.xs b64 (some 1), .xs b64 (some 1), .xs b64 (some 1), .xs (.int .u32) (some 1), .xs (.int .u32) (some 1), .xs (.int .u64) (some 2), .xs b64 (some 1), .xs b64 (some 1), .one (.vec 2 none 1), .one (.nilsl), .one (.nilsl)] (.own), .live [.xs b64 (some 1)] (.own), .live [.xs b8 none] (.own)], dfr := [(55, [.ptr 0 0 false, .ptr 1 0 false])] } [.xs, .xs, .xs, .xs, .xs, .xs, .xs, .xs, .nat, .xs, .nat, .xs] y.2)
 | .inr y => K .ret (fSt { tmps := V :: V :: .sc (.ptr 0 0 false) :: .sc (.ptr 1 0 false) :: pv 44 [], mem := [.live [.xs b64 (some 1), .xs b64 (some 1), .xs b64 (some 1), .xs (.int .u32) (some 1), .xs (.int .u32) (some 1), .xs (.int .u64) (some 2), .xs b64 (some 1), .xs b64 (some 1), .one (.vec 2 none 1), .one (.nilsl), .one (.nilsl)] (.own), .live [.xs b64 (some 1)] (.own), .live [.xs b8 none] (.own)], dfr := [(55, [.ptr 0 0 false, .ptr 1 0 false])] } [.xs, .xs, .xs, .xs, .xs, .xs, .xs, .xs, .nat, .xs, .nat, .xs] y)
theorem a4h (N : Nat) : EntryOk p_msg_Get_E k9 N (I1 H0 (o7 N) R1) (.seq (S4 8000011 d7) (G1 8000011 d7)) :=
 a5B (body := d7) (k := 11) (OkAll.nil) (by kernel_rfl) (fun x => by kernel_rfl) (fun β x K => by kernel_rfl)
noncomputable def K7 : Shape where
 h := { tmps := [V, V, .sc (.ptr 0 0 false), .sc (.ptr 1 0 false), .sc (.ptr 2 0 false), V, V, V, V, V, V, V, V, V, V, V, V, V, V, V, V, V, .sc (.vec 3 (some 5) 1), .sc (.lit .i64 (5)), .sc (.lit .i64 (0)), V, V, V, V, V, V, V, V, V, V, V, V, V, V, V, V, V, V, V, V, V, V, V], mem := [.live [.xs b64 (some 1), .xs b64 (some 1), .xs b64 (some 1), .xs (.int .u32) (some 1), .xs (.int .u32) (some 1), .xs (.int .u64) (some 2), .xs b64 (some 1), .xs b64 (some 1), .one (.nilsl), .one (.nilsl), .one (.nilsl)] (.own), .live [.xs b64 (some 1)] (.own), .live [.one (.sl 4 (some 1) none none 1)] (.own), .live [.one (.ifp 95 0 1), .one (.ifp 95 0 2), .one (.ifp 98 0 3), .one (.ifp 102 0 8), .one (.ifq 81 0 9 .i64)] (.own), .live [.xs b8 none] (.ro)], dfr := [(55, [.ptr 0 0 false, .ptr 1 0 false])] }
 ks := [.xs, .xs, .xs, .xs, .xs, .xs, .xs, .xs, .xs, .nat, .nat, .int, .nat, .xs]
 st := fun x => { tmps := [U, U, .one (.sc (.ptr 0 0 none)), .one (.sc (.ptr 1 0 none)), .one (.sc (.ptr 2 0 none)), U, U, U, U, U, U, U, U, U, U, U, U, U, U, U, U, U, .one (.sc (.vec 3 5 1)), .one (.sc (.int .i64 (5:Int))), .one (.sc (.int .i64 (0:Int))), U, U, U, U, U, U, U, U, U, U, U, U, U, U, U, U, U, U, U, U, U, U, U], mem := [.live { segs := [.xs b64 1 x.1, .xs b64 1 x.2.1, .xs b64 1 x.2.2.1, .xs (.int .u32) 1 x.2.2.2.1, .xs (.int .u32) 1 x.2.2.2.2.1, .xs (.int .u64) 2 x.2.2.2.2.2.1, .xs b64 1 x.2.2.2.2.2.2.1, .xs b64 1 x.2.2.2.2.2.2.2.1, .one (.nilsl), .one (.nilsl), .one (.nilsl)], own := .own }, .live { segs := [.xs b64 1 x.2.2.2.2.2.2.2.2.1], own := .own }, .live { segs := [.one (.sl 4 1 x.2.2.2.2.2.2.2.2.2.1 x.2.2.2.2.2.2.2.2.2.2.1 1)], own := .own }, .live { segs := [.one (.ifp 95 0 1), .one (.ifp 95 0 2), .one (.ifp 98 0 3), .one (.ifp 102 0 8), .one (.ifq 81 0 9 .i64 x.2.2.2.2.2.2.2.2.2.2.2.1)], own := .own }, .live { segs := [.xs b8 x.2.2.2.2.2.2.2.2.2.2.2.2.1 x.2.2.2.2.2.2.2.2.2.2.2.2.2.1], own := .ro }], dfr := [(55, [.ptr 0 0 none, .ptr 1 0 none])] }
noncomputable def D4 (N : Nat) (β : Type) (x : W16) (ke : W17 → Option β) : Option β :=
 if (((x.2.2.2.2.2.2.2.2.2.1 : Nat) : Int) < (1:Int)) then
  ke (.inl ((List.getD (List.set [0] 0 (8:Int)) 0 0), x.1, x.2.1, x.2.2.1, x.2.2.2.1, x.2.2.2.2.1, x.2.2.2.2.2.1, x.2.2.2.2.2.2.1, x.2.2.2.2.2.2.2.1, x.2.2.2.2.2.2.2.2.1, ()))
 else
  if 0 ≤ (1:Int) then (
  if (1:Int) ≤ ((x.2.2.2.2.2.2.2.2.2.1 : Nat) : Int) then (
  if 0 ≤ (1:Int) then (
  if (1:Int) ≤ ((x.2.2.2.2.2.2.2.2.2.1 : Nat) : Int) then (
  (d0 ((List.take 1 (List.drop 1 x.2.2.2.2.2.2.2.2.2.2.2.2.2.1)), ())).bind fun r47 => (
  if ((((x.2.2.2.2.2.2.2.2.2.1 - 1) : Nat) : Int) < (1:Int)) then
   ke (.inl ((List.getD (List.set [0] 0 (8:Int)) 0 0), x.1, (List.set x.2.1 0 (IntKind.i64.wrap r47.1)), x.2.2.1, x.2.2.2.1, x.2.2.2.2.1, x.2.2.2.2.2.1, x.2.2.2.2.2.2.1, x.2.2.2.2.2.2.2.1, x.2.2.2.2.2.2.2.2.1, ()))
  else
   if 0 ≤ (1:Int) then (
   if (1:Int) ≤ (((x.2.2.2.2.2.2.2.2.2.1 - 1) : Nat) : Int) then (
   if 0 ≤ (1:Int) then (
   if (1:Int) ≤ (((x.2.2.2.2.2.2.2.2.2.1 - 1) : Nat) : Int) then (
   (d0 ((List.take 1 (List.drop 2 x.2.2.2.2.2.2.2.2.2.2.2.2.2.1)), ())).bind fun r48 => (
   if (((((x.2.2.2.2.2.2.2.2.2.1 - 1) - 1) : Nat) : Int) < (4:Int)) then
    ke (.inl ((List.getD (List.set [0] 0 (8:Int)) 0 0), x.1, (List.set x.2.1 0 (IntKind.i64.wrap r47.1)), (List.set x.2.2.1 0 (IntKind.i64.wrap r48.1)), x.2.2.2.1, x.2.2.2.2.1, x.2.2.2.2.2.1, x.2.2.2.2.2.2.1, x.2.2.2.2.2.2.2.1, x.2.2.2.2.2.2.2.2.1, ()))
   else
    if 0 ≤ (4:Int) then (
    if (4:Int) ≤ ((((x.2.2.2.2.2.2.2.2.2.1 - 1) - 1) : Nat) : Int) then (
    if 0 ≤ (4:Int) then (
    if (4:Int) ≤ ((((x.2.2.2.2.2.2.2.2.2.1 - 1) - 1) : Nat) : Int) then (
    (d0 ((List.take 4 (List.drop 3 x.2.2.2.2.2.2.2.2.2.2.2.2.2.1)), ())).bind fun r49 => (
    if ((((((x.2.2.2.2.2.2.2.2.2.1 - 1) - 1) - 4) : Nat) : Int) < (2:Int)) then
     ke (.inl ((List.getD (List.set [0] 0 (8:Int)) 0 0), x.1, (List.set x.2.1 0 (IntKind.i64.wrap r47.1)), (List.set x.2.2.1 0 (IntKind.i64.wrap r48.1)), (List.set x.2.2.2.1 0 (IntKind.u32.wrap r49.1)), x.2.2.2.2.1, x.2.2.2.2.2.1, x.2.2.2.2.2.2.1, x.2.2.2.2.2.2.2.1, x.2.2.2.2.2.2.2.2.1, ()))
    else
     if 0 ≤ (2:Int) then (
     if (2:Int) ≤ (((((x.2.2.2.2.2.2.2.2.2.1 - 1) - 1) - 4) : Nat) : Int) then (
     if 0 ≤ (2:Int) then (
     if (2:Int) ≤ (((((x.2.2.2.2.2.2.2.2.2.1 - 1) - 1) - 4) : Nat) : Int) then (
     (d0 ((List.take 2 (List.drop 7 x.2.2.2.2.2.2.2.2.2.2.2.2.2.1)), ())).bind fun r50 => (
     if (((((((x.2.2.2.2.2.2.2.2.2.1 - 1) - 1) - 4) - 2) : Nat) : Int) < (2:Int)) then
      ke (.inl ((List.getD (List.set [0] 0 (8:Int)) 0 0), x.1, (List.set x.2.1 0 (IntKind.i64.wrap r47.1)), (List.set x.2.2.1 0 (IntKind.i64.wrap r48.1)), (List.set x.2.2.2.1 0 (IntKind.u32.wrap r49.1)), x.2.2.2.2.1, x.2.2.2.2.2.1, x.2.2.2.2.2.2.1, (List.set x.2.2.2.2.2.2.2.1 0 (IntKind.i64.wrap r50.1)), x.2.2.2.2.2.2.2.2.1, ()))
     else
      if 0 ≤ (2:Int) then (
      if (2:Int) ≤ ((((((x.2.2.2.2.2.2.2.2.2.1 - 1) - 1) - 4) - 2) : Nat) : Int) then (
      if 0 ≤ (2:Int) then (
      if (2:Int) ≤ ((((((x.2.2.2.2.2.2.2.2.2.1 - 1) - 1) - 4) - 2) : Nat) : Int) then (
      (d0 ((List.take 2 (List.drop 9 x.2.2.2.2.2.2.2.2.2.2.2.2.2.1)), ())).bind fun r51 => (
      if (r51.1 > (IntKind.u64.wrap x.2.2.2.2.2.2.2.2.2.2.2.1)) then
       ke (.inl ((List.getD (List.set [0] 0 (3:Int)) 0 0), x.1, (List.set x.2.1 0 (IntKind.i64.wrap r47.1)), (List.set x.2.2.1 0 (IntKind.i64.wrap r48.1)), (List.set x.2.2.2.1 0 (IntKind.u32.wrap r49.1)), x.2.2.2.2.1, x.2.2.2.2.2.1, x.2.2.2.2.2.2.1, (List.set x.2.2.2.2.2.2.2.1 0 (IntKind.i64.wrap r50.1)), x.2.2.2.2.2.2.2.2.1, ()))
      else
       if r51.1 = r51.1 then (
       if (IntKind.i64.wrap r51.1) = (IntKind.i64.wrap r51.1) then (
       if ((((((((x.2.2.2.2.2.2.2.2.2.1 - 1) - 1) - 4) - 2) - 2) : Nat) : Int) < (IntKind.i64.wrap r51.1)) then
        ke (.inl ((List.getD (List.set [0] 0 (8:Int)) 0 0), x.1, (List.set x.2.1 0 (IntKind.i64.wrap r47.1)), (List.set x.2.2.1 0 (IntKind.i64.wrap r48.1)), (List.set x.2.2.2.1 0 (IntKind.u32.wrap r49.1)), x.2.2.2.2.1, x.2.2.2.2.2.1, x.2.2.2.2.2.2.1, (List.set x.2.2.2.2.2.2.2.1 0 (IntKind.i64.wrap r50.1)), x.2.2.2.2.2.2.2.2.1, ()))
       else
        if 0 ≤ (IntKind.i64.wrap r51.1) then (
        if (IntKind.i64.wrap r51.1) ≤ (((((((x.2.2.2.2.2.2.2.2.2.1 - 1) - 1) - 4) - 2) - 2) : Nat) : Int) then (
        if 0 ≤ (IntKind.i64.wrap r51.1) then (
        if (IntKind.i64.wrap r51.1) ≤ (((((((x.2.2.2.2.2.2.2.2.2.1 - 1) - 1) - 4) - 2) - 2) : Nat) : Int) then (
        if r51.1 = r51.1 then (
        if (IntKind.i64.wrap r51.1) = (IntKind.i64.wrap r51.1) then (
        (i0 ((List.take ((IntKind.i64.wrap r51.1).toNat) (List.drop 11 x.2.2.2.2.2.2.2.2.2.2.2.2.2.1)), ())).bind fun r52 => (
        if r51.1 = r51.1 then (
        if (IntKind.i64.wrap r51.1) = (IntKind.i64.wrap r51.1) then (
        ke (.inr (x.1, (List.set x.2.1 0 (IntKind.i64.wrap r47.1)), (List.set x.2.2.1 0 (IntKind.i64.wrap r48.1)), (List.set x.2.2.2.1 0 (IntKind.u32.wrap r49.1)), x.2.2.2.2.1, x.2.2.2.2.2.1, x.2.2.2.2.2.2.1, (List.set x.2.2.2.2.2.2.2.1 0 (IntKind.i64.wrap r50.1)), (List.length r52), x.2.2.2.2.2.2.2.2.1, (11 + ((IntKind.i64.wrap r51.1).toNat)), (a02 (((((x.2.2.2.2.2.2.2.2.2.1 - 1) - 1) - 4) - 2) - 2) ((IntKind.i64.wrap r51.1).toNat)), (a02 (((((x.2.2.2.2.2.2.2.2.2.2.1 - 1) - 1) - 4) - 2) - 2) ((IntKind.i64.wrap r51.1).toNat)), (List.length r52), r52, x.2.2.2.2.2.2.2.2.2.2.2.2.1, x.2.2.2.2.2.2.2.2.2.2.2.2.2.1, ()))) else none) else none)) else none) else none) else none) else none) else none) else none) else none) else none)) else none) else none) else none) else none)) else none) else none) else none) else none)) else none) else none) else none) else none)) else none) else none) else none) else none)) else none) else none) else none) else none
noncomputable def Y0 : Go' W17 := fun y K => match y with
 | .inl y => K (.pan (.ifg 64 .i64) y.1) (fSt { tmps := V :: V :: .sc (.ptr 0 0 false) :: .sc (.ptr 1 0 false) :: pv 44 [], mem := [.live [.xs b64 (some 1), .xs b64 (some 1), .xs b64 (some 1), .xs (.int .u32) (some 1), .xs (.int .u32) (some 1), .xs (.int .u64) (some 2), .xs b64 (some 1), .xs b64 (some 1), .one (.nilsl), .one (.nilsl), .one (.nilsl)] (.own), .live [.xs b64 (some 1)] (.own)], dfr := [(55, [.ptr 0 0 false, .ptr 1 0 false])] } [.xs, .xs, .xs, .xs, .xs, .xs, .xs, .xs, .xs] y.2)
 | .inr y => K .normal (fSt { tmps := V :: V :: .sc (.ptr 0 0 false) :: .sc (.ptr 1 0 false) :: .sc (.ptr 2 0 false) :: pv 43 [], mem := [.live [.xs b64 (some 1), .xs b64 (some 1), .xs b64 (some 1), .xs (.int .u32) (some 1), .xs (.int .u32) (some 1), .xs (.int .u64) (some 2), .xs b64 (some 1), .xs b64 (some 1), .one (.vec 3 none 1), .one (.nilsl), .one (.nilsl)] (.own), .live [.xs b64 (some 1)] (.own), .live [.one (.sl 4 none none none 1)] (.own), .live [.xs b8 none] (.own), .live [.xs b8 none] (.ro)], dfr := [(55, [.ptr 0 0 false, .ptr 1 0 false])] } [.xs, .xs, .xs, .xs, .xs, .xs, .xs, .xs, .nat, .xs, .nat, .nat, .nat, .nat, .xs, .nat, .xs] y)
theorem a5f (N : Nat) : EntryOk p_msg_Get_E k9 N (I1 K7 (D4 N) Y0) (.seq (S4 8000007 d7) (G1 8000007 d7)) :=
 a5B (body := d7) (k := 7) (OkAll.nil) (by kernel_rfl) (fun x => by kernel_rfl) (fun β x K => by kernel_rfl)
end Go.Ax.TryP
set_option linter.unusedVariables false
namespace Go.Ax.TryP
open Go.Proofs
noncomputable def K8 : Shape where
 h := { tmps := [V, V, .sc (.ptr 0 0 false), .sc (.ptr 1 0 false), .sc (.ptr 2 0 false), V, V, V, V, V, V, V, V, V, V, V, V, V, V, V, V, V, .sc (.vec 3 (some 7) 1), .sc (.lit .i64 (7)), .sc (.lit .i64 (0)), V, V, V, V, V, V, V, V, V, V, V, V, V, V, V, V, V, V, V, V, V, V, V], mem := [.live [.xs b64 (some 1), .xs b64 (some 1), .xs b64 (some 1), .xs (.int .u32) (some 1), .xs (.int .u32) (some 1), .xs (.int .u64) (some 2), .xs b64 (some 1), .xs b64 (some 1), .one (.nilsl), .one (.nilsl), .one (.nilsl)] (.own), .live [.xs b64 (some 1)] (.own), .live [.one (.sl 4 (some 1) none none 1)] (.own), .live [.one (.ifp 95 0 1), .one (.ifp 95 0 2), .one (.ifp 98 0 3), .one (.ifp 98 0 4), .one (.ifp 101 0 5), .one (.ifp 101 0 6), .one (.ifq 81 0 11 .i64)] (.own), .live [.xs b8 none] (.ro)], dfr := [(55, [.ptr 0 0 false, .ptr 1 0 false])] }
 ks := [.xs, .xs, .xs, .xs, .xs, .xs, .xs, .xs, .xs, .nat, .nat, .int, .nat, .xs]
 st := fun x => { tmps := [U, U, .one (.sc (.ptr 0 0 none)), .one (.sc (.ptr 1 0 none)), .one (.sc (.ptr 2 0 none)), U, U, U, U, U, U, U, U, U, U, U, U, U, U, U, U, U, .one (.sc (.vec 3 7 1)), .one (.sc (.int .i64 (7:Int))), .one (.sc (.int .i64 (0:Int))), U, U, U, U, U, U, U, U, U, U, U, U, U, U, U, U, U, U, U, U, U, U, U], mem := [.live { segs := [.xs b64 1 x.1, .xs b64 1 x.2.1, .xs b64 1 x.2.2.1, .xs (.int .u32) 1 x.2.2.2.1, .xs (.int .u32) 1 x.2.2.2.2.1, .xs (.int .u64) 2 x.2.2.2.2.2.1, .xs b64 1 x.2.2.2.2.2.2.1, .xs b64 1 x.2.2.2.2.2.2.2.1, .one (.nilsl), .one (.nilsl), .one (.nilsl)], own := .own }, .live { segs := [.xs b64 1 x.2.2.2.2.2.2.2.2.1], own := .own }, .live { segs := [.one (.sl 4 1 x.2.2.2.2.2.2.2.2.2.1 x.2.2.2.2.2.2.2.2.2.2.1 1)], own := .own }, .live { segs := [.one (.ifp 95 0 1), .one (.ifp 95 0 2), .one (.ifp 98 0 3), .one (.ifp 98 0 4), .one (.ifp 101 0 5), .one (.ifp 101 0 6), .one (.ifq 81 0 11 .i64 x.2.2.2.2.2.2.2.2.2.2.2.1)], own := .own }, .live { segs := [.xs b8 x.2.2.2.2.2.2.2.2.2.2.2.2.1 x.2.2.2.2.2.2.2.2.2.2.2.2.2.1], own := .ro }], dfr := [(55, [.ptr 0 0 none, .ptr 1 0 none])] }
noncomputable def s6 (N : Nat) (β : Type) (x : W16) (ke : W17 → Option β) : Option β :=
 if (((x.2.2.2.2.2.2.2.2.2.1 : Nat) : Int) < (1:Int)) then
  ke (.inl ((List.getD (List.set [0] 0 (8:Int)) 0 0), x.1, x.2.1, x.2.2.1, x.2.2.2.1, x.2.2.2.2.1, x.2.2.2.2.2.1, x.2.2.2.2.2.2.1, x.2.2.2.2.2.2.2.1, x.2.2.2.2.2.2.2.2.1, ()))
 else
  if 0 ≤ (1:Int) then (
  if (1:Int) ≤ ((x.2.2.2.2.2.2.2.2.2.1 : Nat) : Int) then (
  if 0 ≤ (1:Int) then (
  if (1:Int) ≤ ((x.2.2.2.2.2.2.2.2.2.1 : Nat) : Int) then (
  (d0 ((List.take 1 (List.drop 1 x.2.2.2.2.2.2.2.2.2.2.2.2.2.1)), ())).bind fun r57 => (
  if ((((x.2.2.2.2.2.2.2.2.2.1 - 1) : Nat) : Int) < (1:Int)) then
   ke (.inl ((List.getD (List.set [0] 0 (8:Int)) 0 0), x.1, (List.set x.2.1 0 (IntKind.i64.wrap r57.1)), x.2.2.1, x.2.2.2.1, x.2.2.2.2.1, x.2.2.2.2.2.1, x.2.2.2.2.2.2.1, x.2.2.2.2.2.2.2.1, x.2.2.2.2.2.2.2.2.1, ()))
  else
   if 0 ≤ (1:Int) then (
   if (1:Int) ≤ (((x.2.2.2.2.2.2.2.2.2.1 - 1) : Nat) : Int) then (
   if 0 ≤ (1:Int) then (
   if (1:Int) ≤ (((x.2.2.2.2.2.2.2.2.2.1 - 1) : Nat) : Int) then (
   (d0 ((List.take 1 (List.drop 2 x.2.2.2.2.2.2.2.2.2.2.2.2.2.1)), ())).bind fun r58 => (
   if (((((x.2.2.2.2.2.2.2.2.2.1 - 1) - 1) : Nat) : Int) < (4:Int)) then
    ke (.inl ((List.getD (List.set [0] 0 (8:Int)) 0 0), x.1, (List.set x.2.1 0 (IntKind.i64.wrap r57.1)), (List.set x.2.2.1 0 (IntKind.i64.wrap r58.1)), x.2.2.2.1, x.2.2.2.2.1, x.2.2.2.2.2.1, x.2.2.2.2.2.2.1, x.2.2.2.2.2.2.2.1, x.2.2.2.2.2.2.2.2.1, ()))
   else
    if 0 ≤ (4:Int) then (
    if (4:Int) ≤ ((((x.2.2.2.2.2.2.2.2.2.1 - 1) - 1) : Nat) : Int) then (
    if 0 ≤ (4:Int) then (
    if (4:Int) ≤ ((((x.2.2.2.2.2.2.2.2.2.1 - 1) - 1) : Nat) : Int) then (
    (d0 ((List.take 4 (List.drop 3 x.2.2.2.2.2.2.2.2.2.2.2.2.2.1)), ())).bind fun r59 => (
    if ((((((x.2.2.2.2.2.2.2.2.2.1 - 1) - 1) - 4) : Nat) : Int) < (4:Int)) then
     ke (.inl ((List.getD (List.set [0] 0 (8:Int)) 0 0), x.1, (List.set x.2.1 0 (IntKind.i64.wrap r57.1)), (List.set x.2.2.1 0 (IntKind.i64.wrap r58.1)), (List.set x.2.2.2.1 0 (IntKind.u32.wrap r59.1)), x.2.2.2.2.1, x.2.2.2.2.2.1, x.2.2.2.2.2.2.1, x.2.2.2.2.2.2.2.1, x.2.2.2.2.2.2.2.2.1, ()))
    else
     if 0 ≤ (4:Int) then (
     if (4:Int) ≤ (((((x.2.2.2.2.2.2.2.2.2.1 - 1) - 1) - 4) : Nat) : Int) then (
     if 0 ≤ (4:Int) then (
     if (4:Int) ≤ (((((x.2.2.2.2.2.2.2.2.2.1 - 1) - 1) - 4) : Nat) : Int) then (
     (d0 ((List.take 4 (List.drop 7 x.2.2.2.2.2.2.2.2.2.2.2.2.2.1)), ())).bind fun r60 => (
     if (((((((x.2.2.2.2.2.2.2.2.2.1 - 1) - 1) - 4) - 4) : Nat) : Int) < (8:Int)) then
      ke (.inl ((List.getD (List.set [0] 0 (8:Int)) 0 0), x.1, (List.set x.2.1 0 (IntKind.i64.wrap r57.1)), (List.set x.2.2.1 0 (IntKind.i64.wrap r58.1)), (List.set x.2.2.2.1 0 (IntKind.u32.wrap r59.1)), (List.set x.2.2.2.2.1 0 (IntKind.u32.wrap r60.1)), x.2.2.2.2.2.1, x.2.2.2.2.2.2.1, x.2.2.2.2.2.2.2.1, x.2.2.2.2.2.2.2.2.1, ()))
     else
      if 0 ≤ (8:Int) then (
      if (8:Int) ≤ ((((((x.2.2.2.2.2.2.2.2.2.1 - 1) - 1) - 4) - 4) : Nat) : Int) then (
      if 0 ≤ (8:Int) then (
      if (8:Int) ≤ ((((((x.2.2.2.2.2.2.2.2.2.1 - 1) - 1) - 4) - 4) : Nat) : Int) then (
      (d0 ((List.take 8 (List.drop 11 x.2.2.2.2.2.2.2.2.2.2.2.2.2.1)), ())).bind fun r61 => (
      if ((((((((x.2.2.2.2.2.2.2.2.2.1 - 1) - 1) - 4) - 4) - 8) : Nat) : Int) < (8:Int)) then
       ke (.inl ((List.getD (List.set [0] 0 (8:Int)) 0 0), x.1, (List.set x.2.1 0 (IntKind.i64.wrap r57.1)), (List.set x.2.2.1 0 (IntKind.i64.wrap r58.1)), (List.set x.2.2.2.1 0 (IntKind.u32.wrap r59.1)), (List.set x.2.2.2.2.1 0 (IntKind.u32.wrap r60.1)), (List.set x.2.2.2.2.2.1 0 r61.1), x.2.2.2.2.2.2.1, x.2.2.2.2.2.2.2.1, x.2.2.2.2.2.2.2.2.1, ()))
      else
       if 0 ≤ (8:Int) then (
       if (8:Int) ≤ (((((((x.2.2.2.2.2.2.2.2.2.1 - 1) - 1) - 4) - 4) - 8) : Nat) : Int) then (
       if 0 ≤ (8:Int) then (
       if (8:Int) ≤ (((((((x.2.2.2.2.2.2.2.2.2.1 - 1) - 1) - 4) - 4) - 8) : Nat) : Int) then (
       (d0 ((List.take 8 (List.drop 19 x.2.2.2.2.2.2.2.2.2.2.2.2.2.1)), ())).bind fun r62 => (
       if (((((((((x.2.2.2.2.2.2.2.2.2.1 - 1) - 1) - 4) - 4) - 8) - 8) : Nat) : Int) < (2:Int)) then
        ke (.inl ((List.getD (List.set [0] 0 (8:Int)) 0 0), x.1, (List.set x.2.1 0 (IntKind.i64.wrap r57.1)), (List.set x.2.2.1 0 (IntKind.i64.wrap r58.1)), (List.set x.2.2.2.1 0 (IntKind.u32.wrap r59.1)), (List.set x.2.2.2.2.1 0 (IntKind.u32.wrap r60.1)), (List.set (List.set x.2.2.2.2.2.1 0 r61.1) 1 r62.1), x.2.2.2.2.2.2.1, x.2.2.2.2.2.2.2.1, x.2.2.2.2.2.2.2.2.1, ()))
       else
        if 0 ≤ (2:Int) then (
        if (2:Int) ≤ ((((((((x.2.2.2.2.2.2.2.2.2.1 - 1) - 1) - 4) - 4) - 8) - 8) : Nat) : Int) then (
        if 0 ≤ (2:Int) then (
        if (2:Int) ≤ ((((((((x.2.2.2.2.2.2.2.2.2.1 - 1) - 1) - 4) - 4) - 8) - 8) : Nat) : Int) then (
        (d0 ((List.take 2 (List.drop 27 x.2.2.2.2.2.2.2.2.2.2.2.2.2.1)), ())).bind fun r63 => (
        if (r63.1 > (IntKind.u64.wrap x.2.2.2.2.2.2.2.2.2.2.2.1)) then
         ke (.inl ((List.getD (List.set [0] 0 (3:Int)) 0 0), x.1, (List.set x.2.1 0 (IntKind.i64.wrap r57.1)), (List.set x.2.2.1 0 (IntKind.i64.wrap r58.1)), (List.set x.2.2.2.1 0 (IntKind.u32.wrap r59.1)), (List.set x.2.2.2.2.1 0 (IntKind.u32.wrap r60.1)), (List.set (List.set x.2.2.2.2.2.1 0 r61.1) 1 r62.1), x.2.2.2.2.2.2.1, x.2.2.2.2.2.2.2.1, x.2.2.2.2.2.2.2.2.1, ()))
        else
         if r63.1 = r63.1 then (
         if (IntKind.i64.wrap r63.1) = (IntKind.i64.wrap r63.1) then (
         if ((((((((((x.2.2.2.2.2.2.2.2.2.1 - 1) - 1) - 4) - 4) - 8) - 8) - 2) : Nat) : Int) < (IntKind.i64.wrap r63.1)) then
          ke (.inl ((List.getD (List.set [0] 0 (8:Int)) 0 0), x.1, (List.set x.2.1 0 (IntKind.i64.wrap r57.1)), (List.set x.2.2.1 0 (IntKind.i64.wrap r58.1)), (List.set x.2.2.2.1 0 (IntKind.u32.wrap r59.1)), (List.set x.2.2.2.2.1 0 (IntKind.u32.wrap r60.1)), (List.set (List.set x.2.2.2.2.2.1 0 r61.1) 1 r62.1), x.2.2.2.2.2.2.1, x.2.2.2.2.2.2.2.1, x.2.2.2.2.2.2.2.2.1, ()))
         else
          if 0 ≤ (IntKind.i64.wrap r63.1) then (
          if (IntKind.i64.wrap r63.1) ≤ (((((((((x.2.2.2.2.2.2.2.2.2.1 - 1) - 1) - 4) - 4) - 8) - 8) - 2) : Nat) : Int) then (
          if 0 ≤ (IntKind.i64.wrap r63.1) then (
          if (IntKind.i64.wrap r63.1) ≤ (((((((((x.2.2.2.2.2.2.2.2.2.1 - 1) - 1) - 4) - 4) - 8) - 8) - 2) : Nat) : Int) then (
          if r63.1 = r63.1 then (
          if (IntKind.i64.wrap r63.1) = (IntKind.i64.wrap r63.1) then (
          (i0 ((List.take ((IntKind.i64.wrap r63.1).toNat) (List.drop 29 x.2.2.2.2.2.2.2.2.2.2.2.2.2.1)), ())).bind fun r64 => (
          if r63.1 = r63.1 then (
          if (IntKind.i64.wrap r63.1) = (IntKind.i64.wrap r63.1) then (
          ke (.inr (x.1, (List.set x.2.1 0 (IntKind.i64.wrap r57.1)), (List.set x.2.2.1 0 (IntKind.i64.wrap r58.1)), (List.set x.2.2.2.1 0 (IntKind.u32.wrap r59.1)), (List.set x.2.2.2.2.1 0 (IntKind.u32.wrap r60.1)), (List.set (List.set x.2.2.2.2.2.1 0 r61.1) 1 r62.1), x.2.2.2.2.2.2.1, x.2.2.2.2.2.2.2.1, (List.length r64), x.2.2.2.2.2.2.2.2.1, (29 + ((IntKind.i64.wrap r63.1).toNat)), (a02 (((((((x.2.2.2.2.2.2.2.2.2.1 - 1) - 1) - 4) - 4) - 8) - 8) - 2) ((IntKind.i64.wrap r63.1).toNat)), (a02 (((((((x.2.2.2.2.2.2.2.2.2.2.1 - 1) - 1) - 4) - 4) - 8) - 8) - 2) ((IntKind.i64.wrap r63.1).toNat)), (List.length r64), r64, x.2.2.2.2.2.2.2.2.2.2.2.2.1, x.2.2.2.2.2.2.2.2.2.2.2.2.2.1, ()))) else none) else none)) else none) else none) else none) else none) else none) else none) else none) else none)) else none) else none) else none) else none)) else none) else none) else none) else none)) else none) else none) else none) else none)) else none) else none) else none) else none)) else none) else none) else none) else none)) else none) else none) else none) else none)) else none) else none) else none) else none
noncomputable def Y1 : Go' W17 := fun y K => match y with
 | .inl y => K (.pan (.ifg 64 .i64) y.1) (fSt { tmps := V :: V :: .sc (.ptr 0 0 false) :: .sc (.ptr 1 0 false) :: pv 44 [], mem := [.live [.xs b64 (some 1), .xs b64 (some 1), .xs b64 (some 1), .xs (.int .u32) (some 1), .xs (.int .u32) (some 1), .xs (.int .u64) (some 2), .xs b64 (some 1), .xs b64 (some 1), .one (.nilsl), .one (.nilsl), .one (.nilsl)] (.own), .live [.xs b64 (some 1)] (.own)], dfr := [(55, [.ptr 0 0 false, .ptr 1 0 false])] } [.xs, .xs, .xs, .xs, .xs, .xs, .xs, .xs, .xs] y.2)
 | .inr y => K .normal (fSt { tmps := V :: V :: .sc (.ptr 0 0 false) :: .sc (.ptr 1 0 false) :: .sc (.ptr 2 0 false) :: pv 43 [], mem := [.live [.xs b64 (some 1), .xs b64 (some 1), .xs b64 (some 1), .xs (.int .u32) (some 1), .xs (.int .u32) (some 1), .xs (.int .u64) (some 2), .xs b64 (some 1), .xs b64 (some 1), .one (.nilsl), .one (.nilsl), .one (.vec 3 none 1)] (.own), .live [.xs b64 (some 1)] (.own), .live [.one (.sl 4 none none none 1)] (.own), .live [.xs b8 none] (.own), .live [.xs b8 none] (.ro)], dfr := [(55, [.ptr 0 0 false, .ptr 1 0 false])] } [.xs, .xs, .xs, .xs, .xs, .xs, .xs, .xs, .nat, .xs, .nat, .nat, .nat, .nat, .xs, .nat, .xs] y)
theorem a5g (N : Nat) : EntryOk p_msg_Get_E k9 N (I1 K8 (s6 N) Y1) (.seq (S4 8000007 d7) (G1 8000007 d7)) :=
 a5B (body := d7) (k := 7) (OkAll.nil) (by kernel_rfl) (fun x => by kernel_rfl) (fun β x K => by kernel_rfl)
noncomputable def H1 : Shape := mkS { tmps := V :: V :: .sc (.ptr 0 0 false) :: .sc (.ptr 1 0 false) :: .sc (.ptr 2 0 false) :: pv 43 [], mem := [.live [.xs b64 (some 1), .xs b64 (some 1), .xs b64 (some 1), .xs (.int .u32) (some 1), .xs (.int .u32) (some 1), .xs (.int .u64) (some 2), .xs b64 (some 1), .xs b64 (some 1), .one (.nilsl), .one (.nilsl), .one (.vec 3 none 1)] (.own), .live [.xs b64 (some 1)] (.own), .live [.one (.sl 4 none none none 1)] (.own), .live [.xs b8 none] (.own), .live [.xs b8 none] (.ro)], dfr := [(55, [.ptr 0 0 false, .ptr 1 0 false])] } [.xs, .xs, .xs, .xs, .xs, .xs, .xs, .xs, .nat, .xs, .nat, .nat, .nat, .nat, .xs, .nat, .xs]
noncomputable def o8 (N : Nat) (β : Type) (x : W18) (ke : W19 → Option β) : Option β :=
 if (((x.2.2.2.2.2.2.2.2.2.2.2.1 : Nat) : Int) > (0:Int)) then
  ke (.inl ((List.getD (List.set [0] 0 (212:Int)) 0 0), x.1, x.2.1, x.2.2.1, x.2.2.2.1, x.2.2.2.2.1, x.2.2.2.2.2.1, x.2.2.2.2.2.2.1, x.2.2.2.2.2.2.2.1, x.2.2.2.2.2.2.2.2.1, x.2.2.2.2.2.2.2.2.2.1, x.2.2.2.2.2.2.2.2.2.2.2.2.2.1, x.2.2.2.2.2.2.2.2.2.2.2.2.2.2.1, ()))
 else
  (u2 (((List.getD x.1 0 0), (List.getD x.2.1 0 0), (List.getD x.2.2.1 0 0), (List.getD x.2.2.2.1 0 0), (List.getD x.2.2.2.2.1 0 0), (List.getD (List.take 1 x.2.2.2.2.2.1) 0 0), (List.getD (List.drop 1 x.2.2.2.2.2.1) 0 0), (List.getD x.2.2.2.2.2.2.1 0 0), (List.getD x.2.2.2.2.2.2.2.1 0 0), [], [], x.2.2.2.2.2.2.2.2.2.2.2.2.2.2.1, ()), ())).bind fun r67 => (
  if (r67 ≠ (0:Int)) then
   ke (.inl ((List.getD (List.set [0] 0 r67) 0 0), x.1, x.2.1, x.2.2.1, x.2.2.2.1, x.2.2.2.2.1, x.2.2.2.2.2.1, x.2.2.2.2.2.2.1, x.2.2.2.2.2.2.2.1, x.2.2.2.2.2.2.2.2.1, x.2.2.2.2.2.2.2.2.2.1, x.2.2.2.2.2.2.2.2.2.2.2.2.2.1, x.2.2.2.2.2.2.2.2.2.2.2.2.2.2.1, ()))
  else
   ke (.inr (x.1, x.2.1, x.2.2.1, x.2.2.2.1, x.2.2.2.2.1, x.2.2.2.2.2.1, x.2.2.2.2.2.2.1, x.2.2.2.2.2.2.2.1, x.2.2.2.2.2.2.2.2.1, (List.set x.2.2.2.2.2.2.2.2.2.1 0 (0:Int)), x.2.2.2.2.2.2.2.2.2.2.2.2.2.1, x.2.2.2.2.2.2.2.2.2.2.2.2.2.2.1, ())))
noncomputable def R3 : Go' W19 := fun y K => match y with
 | .inl y => K (.pan (.ifg 64 .i64) y.1) (fSt { tmps := V :: V :: .sc (.ptr 0 0 false) :: .sc (.ptr 1 0 false) :: pv 44 [], mem := [.live [.xs b64 (some 1), .xs b64 (some 1), .xs b64 (some 1), .xs (.int .u32) (some 1), .xs (.int .u32) (some 1), .xs (.int .u64) (some 2), .xs b64 (some 1), .xs b64 (some 1), .one (.nilsl), .one (.nilsl), .one (.vec 2 none 1)] (.own), .live [.xs b64 (some 1)] (.own), .live [.xs b8 none] (.own)], dfr := [(55, [.ptr 0 0 false, .ptr 1 0 false])] } [.xs, .xs, .xs, .xs, .xs, .xs, .xs, .xs, .nat, .xs, .nat, .xs] y.2)
 | .inr y => K .ret (fSt { tmps := V :: V :: .sc (.ptr 0 0 false) :: .sc (.ptr 1 0 false) :: pv 44 [], mem := [.live [.xs b64 (some 1), .xs b64 (some 1), .xs b64 (some 1), .xs (.int .u32) (some 1), .xs (.int .u32) (some 1), .xs (.int .u64) (some 2), .xs b64 (some 1), .xs b64 (some 1), .one (.nilsl), .one (.nilsl), .one (.vec 2 none 1)] (.own), .live [.xs b64 (some 1)] (.own), .live [.xs b8 none] (.own)], dfr := [(55, [.ptr 0 0 false, .ptr 1 0 false])] } [.xs, .xs, .xs, .xs, .xs, .xs, .xs, .xs, .nat, .xs, .nat, .xs] y)
theorem a4i (N : Nat) : EntryOk p_msg_Get_E k9 N (I1 H1 (o8 N) R3) (.seq (S4 8000011 d7) (G1 8000011 d7)) :=
 a5B (body := d7) (k := 11) (OkAll.nil) (by kernel_rfl) (fun x => by kernel_rfl) (fun β x K => by kernel_rfl)
noncomputable def a0V : Shape where
 h := { tmps := [V, V, .sc (.ptr 0 0 false), .sc (.ptr 1 0 false), .sc (.ptr 2 0 false), V, V, V, V, V, V, V, V, V, V, V, V, V, V, V, V, V, .sc (.vec 3 (some 3) 1), .sc (.lit .i64 (3)), .sc (.lit .i64 (0)), V, V, V, V, V, V, V, V, V, V, V, V, V, V, V, V, V, V, V, V, V, V, V], mem := [.live [.xs b64 (some 1), .xs b64 (some 1), .xs b64 (some 1), .xs (.int .u32) (some 1), .xs (.int .u32) (some 1), .xs (.int .u64) (some 2), .xs b64 (some 1), .xs b64 (some 1), .one (.nilsl), .one (.nilsl), .one (.nilsl)] (.own), .live [.xs b64 (some 1)] (.own), .live [.one (.sl 4 (some 1) none none 1)] (.own), .live [.one (.ifp 95 0 1), .one (.ifp 95 0 2), .one (.ifp 98 0 3)] (.own), .live [.xs b8 none] (.ro)], dfr := [(55, [.ptr 0 0 false, .ptr 1 0 false])] }
 ks := [.xs, .xs, .xs, .xs, .xs, .xs, .xs, .xs, .xs, .nat, .nat, .nat, .xs]
 st := fun x => { tmps := [U, U, .one (.sc (.ptr 0 0 none)), .one (.sc (.ptr 1 0 none)), .one (.sc (.ptr 2 0 none)), U, U, U, U, U, U, U, U, U, U, U, U, U, U, U, U, U, .one (.sc (.vec 3 3 1)), .one (.sc (.int .i64 (3:Int))), .one (.sc (.int .i64 (0:Int))), U, U, U, U, U, U, U, U, U, U, U, U, U, U, U, U, U, U, U, U, U, U, U], mem := [.live { segs := [.xs b64 1 x.1, .xs b64 1 x.2.1, .xs b64 1 x.2.2.1, .xs (.int .u32) 1 x.2.2.2.1, .xs (.int .u32) 1 x.2.2.2.2.1, .xs (.int .u64) 2 x.2.2.2.2.2.1, .xs b64 1 x.2.2.2.2.2.2.1, .xs b64 1 x.2.2.2.2.2.2.2.1, .one (.nilsl), .one (.nilsl), .one (.nilsl)], own := .own }, .live { segs := [.xs b64 1 x.2.2.2.2.2.2.2.2.1], own := .own }, .live { segs := [.one (.sl 4 1 x.2.2.2.2.2.2.2.2.2.1 x.2.2.2.2.2.2.2.2.2.2.1 1)], own := .own }, .live { segs := [.one (.ifp 95 0 1), .one (.ifp 95 0 2), .one (.ifp 98 0 3)], own := .own }, .live { segs := [.xs b8 x.2.2.2.2.2.2.2.2.2.2.2.1 x.2.2.2.2.2.2.2.2.2.2.2.2.1], own := .ro }], dfr := [(55, [.ptr 0 0 none, .ptr 1 0 none])] }
abbrev W20 : Type := List Int × List Int × List Int × List Int × List Int × List Int × List Int × List Int × List Int × Nat × Nat × Nat × List Int × Unit
abbrev W21 : Type := (Int × List Int × List Int × List Int × List Int × List Int × List Int × List Int × List Int × List Int × Unit) ⊕ (List Int × List Int × List Int × List Int × List Int × List Int × List Int × List Int × List Int × Nat × Nat × Nat × List Int × Unit)
noncomputable def D5 (N : Nat) (β : Type) (x : W20) (ke : W21 → Option β) : Option β :=
 if (((x.2.2.2.2.2.2.2.2.2.1 : Nat) : Int) < (1:Int)) then
  ke (.inl ((List.getD (List.set [0] 0 (8:Int)) 0 0), x.1, x.2.1, x.2.2.1, x.2.2.2.1, x.2.2.2.2.1, x.2.2.2.2.2.1, x.2.2.2.2.2.2.1, x.2.2.2.2.2.2.2.1, x.2.2.2.2.2.2.2.2.1, ()))
 else
  if 0 ≤ (1:Int) then (
  if (1:Int) ≤ ((x.2.2.2.2.2.2.2.2.2.1 : Nat) : Int) then (
  if 0 ≤ (1:Int) then (
  if (1:Int) ≤ ((x.2.2.2.2.2.2.2.2.2.1 : Nat) : Int) then (
  (d0 ((List.take 1 (List.drop 1 x.2.2.2.2.2.2.2.2.2.2.2.2.1)), ())).bind fun r74 => (
  if ((((x.2.2.2.2.2.2.2.2.2.1 - 1) : Nat) : Int) < (1:Int)) then
   ke (.inl ((List.getD (List.set [0] 0 (8:Int)) 0 0), x.1, (List.set x.2.1 0 (IntKind.i64.wrap r74.1)), x.2.2.1, x.2.2.2.1, x.2.2.2.2.1, x.2.2.2.2.2.1, x.2.2.2.2.2.2.1, x.2.2.2.2.2.2.2.1, x.2.2.2.2.2.2.2.2.1, ()))
  else
   if 0 ≤ (1:Int) then (
   if (1:Int) ≤ (((x.2.2.2.2.2.2.2.2.2.1 - 1) : Nat) : Int) then (
   if 0 ≤ (1:Int) then (
   if (1:Int) ≤ (((x.2.2.2.2.2.2.2.2.2.1 - 1) : Nat) : Int) then (
   (d0 ((List.take 1 (List.drop 2 x.2.2.2.2.2.2.2.2.2.2.2.2.1)), ())).bind fun r75 => (
   if (((((x.2.2.2.2.2.2.2.2.2.1 - 1) - 1) : Nat) : Int) < (4:Int)) then
    ke (.inl ((List.getD (List.set [0] 0 (8:Int)) 0 0), x.1, (List.set x.2.1 0 (IntKind.i64.wrap r74.1)), (List.set x.2.2.1 0 (IntKind.i64.wrap r75.1)), x.2.2.2.1, x.2.2.2.2.1, x.2.2.2.2.2.1, x.2.2.2.2.2.2.1, x.2.2.2.2.2.2.2.1, x.2.2.2.2.2.2.2.2.1, ()))
   else
    if 0 ≤ (4:Int) then (
    if (4:Int) ≤ ((((x.2.2.2.2.2.2.2.2.2.1 - 1) - 1) : Nat) : Int) then (
    if 0 ≤ (4:Int) then (
    if (4:Int) ≤ ((((x.2.2.2.2.2.2.2.2.2.1 - 1) - 1) : Nat) : Int) then (
    (d0 ((List.take 4 (List.drop 3 x.2.2.2.2.2.2.2.2.2.2.2.2.1)), ())).bind fun r76 => (
    ke (.inr (x.1, (List.set x.2.1 0 (IntKind.i64.wrap r74.1)), (List.set x.2.2.1 0 (IntKind.i64.wrap r75.1)), (List.set x.2.2.2.1 0 (IntKind.u32.wrap r76.1)), x.2.2.2.2.1, x.2.2.2.2.2.1, x.2.2.2.2.2.2.1, x.2.2.2.2.2.2.2.1, x.2.2.2.2.2.2.2.2.1, (((x.2.2.2.2.2.2.2.2.2.1 - 1) - 1) - 4), (((x.2.2.2.2.2.2.2.2.2.2.1 - 1) - 1) - 4), x.2.2.2.2.2.2.2.2.2.2.2.1, x.2.2.2.2.2.2.2.2.2.2.2.2.1, ())))) else none) else none) else none) else none)) else none) else none) else none) else none)) else none) else none) else none) else none
noncomputable def Y2 : Go' W21 := fun y K => match y with
 | .inl y => K (.pan (.ifg 64 .i64) y.1) (fSt { tmps := V :: V :: .sc (.ptr 0 0 false) :: .sc (.ptr 1 0 false) :: pv 44 [], mem := [.live [.xs b64 (some 1), .xs b64 (some 1), .xs b64 (some 1), .xs (.int .u32) (some 1), .xs (.int .u32) (some 1), .xs (.int .u64) (some 2), .xs b64 (some 1), .xs b64 (some 1), .one (.nilsl), .one (.nilsl), .one (.nilsl)] (.own), .live [.xs b64 (some 1)] (.own)], dfr := [(55, [.ptr 0 0 false, .ptr 1 0 false])] } [.xs, .xs, .xs, .xs, .xs, .xs, .xs, .xs, .xs] y.2)
 | .inr y => K .normal (fSt { tmps := V :: V :: .sc (.ptr 0 0 false) :: .sc (.ptr 1 0 false) :: .sc (.ptr 2 0 false) :: pv 43 [], mem := [.live [.xs b64 (some 1), .xs b64 (some 1), .xs b64 (some 1), .xs (.int .u32) (some 1), .xs (.int .u32) (some 1), .xs (.int .u64) (some 2), .xs b64 (some 1), .xs b64 (some 1), .one (.nilsl), .one (.nilsl), .one (.nilsl)] (.own), .live [.xs b64 (some 1)] (.own), .live [.one (.sl 3 (some 7) none none 1)] (.own), .live [.xs b8 none] (.ro)], dfr := [(55, [.ptr 0 0 false, .ptr 1 0 false])] } [.xs, .xs, .xs, .xs, .xs, .xs, .xs, .xs, .xs, .nat, .nat, .nat, .xs] y)
theorem a5h (N : Nat) : EntryOk p_msg_Get_E k9 N (I1 a0V (D5 N) Y2) (.seq (S4 8000007 d7) (G1 8000007 d7)) :=
 a5B (body := d7) (k := 7) (OkAll.nil) (by kernel_rfl) (fun x => by kernel_rfl) (fun β x K => by kernel_rfl)
noncomputable def a0U (N : Nat) : LT := upd (LT.nil) 8000007 (orE T6 (I1 T6 (H9 N) a1F) (orE K5 (I1 K5 (D2 N) X8) (orE K6 (I1 K6 (D3 N) X9) (orE K7 (I1 K7 (D4 N) Y0) (orE K8 (I1 K8 (s6 N) Y1) (I1 a0V (D5 N) Y2))))))
theorem Y3 (N : Nat) : OkAll p_msg_Get_E k9 N (a0U N) (w3 d7) :=
 b38 (k := 7) (a := S4 8000007 d7) (b := G1 8000007 d7) (OkAll.nil) (by kernel_rfl) (((a7z N).or (((a5d N).or (((a5e N).or (((a5f N).or (((a5g N).or (a5h N)))))))))))
noncomputable def X7 : Shape := mkS { tmps := V :: V :: .sc (.ptr 0 0 false) :: .sc (.ptr 1 0 false) :: .sc (.ptr 2 0 false) :: pv 43 [], mem := [.live [.xs b64 (some 1), .xs b64 (some 1), .xs b64 (some 1), .xs (.int .u32) (some 1), .xs (.int .u32) (some 1), .xs (.int .u64) (some 2), .xs b64 (some 1), .xs b64 (some 1), .one (.nilsl), .one (.nilsl), .one (.nilsl)] (.own), .live [.xs b64 (some 1)] (.own), .live [.one (.sl 3 (some 7) none none 1)] (.own), .live [.xs b8 none] (.ro)], dfr := [(55, [.ptr 0 0 false, .ptr 1 0 false])] } [.xs, .xs, .xs, .xs, .xs, .xs, .xs, .xs, .xs, .nat, .nat, .nat, .xs]
abbrev W22 : Type := (Int × List Int × List Int × List Int × List Int × List Int × List Int × List Int × List Int × List Int × Unit) ⊕ (List Int × List Int × List Int × List Int × List Int × List Int × List Int × List Int × List Int × Unit)
noncomputable def A5 (N : Nat) (β : Type) (x : W20) (ke : W22 → Option β) : Option β :=
 if (((x.2.2.2.2.2.2.2.2.2.1 : Nat) : Int) > (0:Int)) then
  ke (.inl ((List.getD (List.set [0] 0 (212:Int)) 0 0), x.1, x.2.1, x.2.2.1, x.2.2.2.1, x.2.2.2.2.1, x.2.2.2.2.2.1, x.2.2.2.2.2.2.1, x.2.2.2.2.2.2.2.1, x.2.2.2.2.2.2.2.2.1, ()))
 else
  (u2 (((List.getD x.1 0 0), (List.getD x.2.1 0 0), (List.getD x.2.2.1 0 0), (List.getD x.2.2.2.1 0 0), (List.getD x.2.2.2.2.1 0 0), (List.getD (List.take 1 x.2.2.2.2.2.1) 0 0), (List.getD (List.drop 1 x.2.2.2.2.2.1) 0 0), (List.getD x.2.2.2.2.2.2.1 0 0), (List.getD x.2.2.2.2.2.2.2.1 0 0), [], [], [], ()), ())).bind fun r79 => (
  if (r79 ≠ (0:Int)) then
   ke (.inl ((List.getD (List.set [0] 0 r79) 0 0), x.1, x.2.1, x.2.2.1, x.2.2.2.1, x.2.2.2.2.1, x.2.2.2.2.2.1, x.2.2.2.2.2.2.1, x.2.2.2.2.2.2.2.1, x.2.2.2.2.2.2.2.2.1, ()))
  else
   ke (.inr (x.1, x.2.1, x.2.2.1, x.2.2.2.1, x.2.2.2.2.1, x.2.2.2.2.2.1, x.2.2.2.2.2.2.1, x.2.2.2.2.2.2.2.1, (List.set x.2.2.2.2.2.2.2.2.1 0 (0:Int)), ())))
noncomputable def R4 : Go' W22 := fun y K => match y with
 | .inl y => K (.pan (.ifg 64 .i64) y.1) (fSt { tmps := V :: V :: .sc (.ptr 0 0 false) :: .sc (.ptr 1 0 false) :: pv 44 [], mem := [.live [.xs b64 (some 1), .xs b64 (some 1), .xs b64 (some 1), .xs (.int .u32) (some 1), .xs (.int .u32) (some 1), .xs (.int .u64) (some 2), .xs b64 (some 1), .xs b64 (some 1), .one (.nilsl), .one (.nilsl), .one (.nilsl)] (.own), .live [.xs b64 (some 1)] (.own)], dfr := [(55, [.ptr 0 0 false, .ptr 1 0 false])] } [.xs, .xs, .xs, .xs, .xs, .xs, .xs, .xs, .xs] y.2)
 | .inr y => K .ret (fSt { tmps := V :: V :: .sc (.ptr 0 0 false) :: .sc (.ptr 1 0 false) :: pv 44 [], mem := [.live [.xs b64 (some 1), .xs b64 (some 1), .xs b64 (some 1), .xs (.int .u32) (some 1), .xs (.int .u32) (some 1), .xs (.int .u64) (some 2), .xs b64 (some 1), .xs b64 (some 1), .one (.nilsl), .one (.nilsl), .one (.nilsl)] (.own), .live [.xs b64 (some 1)] (.own)], dfr := [(55, [.ptr 0 0 false, .ptr 1 0 false])] } [.xs, .xs, .xs, .xs, .xs, .xs, .xs, .xs, .xs] y)
theorem a4j (N : Nat) : EntryOk p_msg_Get_E k9 N (I1 X7 (A5 N) R4) (.seq (S4 8000011 d7) (G1 8000011 d7)) :=
 a5B (body := d7) (k := 11) (Y3 N) (by kernel_rfl) (fun x => by kernel_rfl) (fun β x K => by kernel_rfl)
noncomputable def X6 (N : Nat) : LT := upd (a0U N) 8000011 (orE N4 (I1 N4 (F3 N) a0T) (orE G9 (I1 G9 (A4 N) R0) (orE H0 (I1 H0 (o7 N) R1) (orE H1 (I1 H1 (o8 N) R3) (I1 X7 (A5 N) R4)))))
theorem a3h (N : Nat) : OkAll p_msg_Get_E k9 N (X6 N) (w3 d7) :=
 b38 (k := 11) (a := S4 8000011 d7) (b := G1 8000011 d7) (Y3 N) (by kernel_rfl) (((a6A N).or (((a4g N).or (((a4h N).or (((a4i N).or (a4j N)))))))))
end Go.Ax.TryP
set_option linter.unusedVariables false
namespace Go.Ax.TryP
open Go.Proofs
noncomputable def a7y : Shape := mkS { tmps := .sc (.vec 2 none 1) :: V :: .sc (.ptr 0 0 false) :: .sc (.ptr 1 0 false) :: pv 44 [], mem := [.live [.xs b64 (some 1), .xs b64 (some 1), .xs b64 (some 1), .xs (.int .u32) (some 1), .xs (.int .u32) (some 1), .xs (.int .u64) (some 2), .xs b64 (some 1), .xs b64 (some 1), .one (.nilsl), .one (.nilsl), .one (.nilsl)] (.own), .live [.xs b64 (some 1)] (.own), .live [.xs b8 none] (.ro)], dfr := [(55, [.ptr 0 0 false, .ptr 1 0 false])] } [.nat, .xs, .xs, .xs, .xs, .xs, .xs, .xs, .xs, .xs, .nat, .xs]
abbrev W23 : Type := Nat × List Int × List Int × List Int × List Int × List Int × List Int × List Int × List Int × List Int × Nat × List Int × Unit
abbrev W24 : Type := (Int × List Int × List Int × List Int × List Int × List Int × List Int × List Int × List Int × List Int × Unit) ⊕ ((Int × List Int × List Int × List Int × List Int × List Int × List Int × List Int × List Int × Nat × List Int × Nat × List Int × Unit) ⊕ ((Int × List Int × List Int × List Int × List Int × List Int × List Int × List Int × List Int × Nat × Nat × List Int × Nat × List Int × Nat × List Int × Unit) ⊕ ((List Int × List Int × List Int × List Int × List Int × List Int × List Int × List Int × Nat × Nat × List Int × Nat × List Int × Nat × List Int × Unit) ⊕ ((Int × List Int × List Int × List Int × List Int × List Int × List Int × List Int × List Int × Nat × List Int × Nat × List Int × Unit) ⊕ ((Int × List Int × List Int × List Int × List Int × List Int × List Int × List Int × List Int × Nat × Nat × List Int × Nat × List Int × Nat × List Int × Unit) ⊕ ((List Int × List Int × List Int × List Int × List Int × List Int × List Int × List Int × Nat × Nat × List Int × Nat × List Int × Nat × List Int × Unit) ⊕ ((List Int × List Int × List Int × List Int × List Int × List Int × List Int × List Int × Nat × List Int × Nat × List Int × Unit) ⊕ ((Int × List Int × List Int × List Int × List Int × List Int × List Int × List Int × List Int × Nat × List Int × Nat × List Int × Unit) ⊕ ((List Int × List Int × List Int × List Int × List Int × List Int × List Int × List Int × Nat × List Int × Nat × List Int × Unit) ⊕ (List Int × List Int × List Int × List Int × List Int × List Int × List Int × List Int × List Int × Unit))))))))))
noncomputable def T5 (N : Nat) (β : Type) (x : W23) (ke : W24 → Option β) : Option β :=
 if (((x.1 : Nat) : Int) < (1:Int)) then
  ke (.inl ((List.getD (List.set [0] 0 (8:Int)) 0 0), x.2.1, x.2.2.1, x.2.2.2.1, x.2.2.2.2.1, x.2.2.2.2.2.1, x.2.2.2.2.2.2.1, x.2.2.2.2.2.2.2.1, x.2.2.2.2.2.2.2.2.1, x.2.2.2.2.2.2.2.2.2.1, ()))
 else
  if 0 ≤ (1:Int) then (
  if (1:Int) ≤ ((x.1 : Nat) : Int) then (
  if 0 ≤ (1:Int) then (
  if (1:Int) ≤ ((x.1 : Nat) : Int) then (
  (d0 ((List.take 1 (List.drop 0 x.2.2.2.2.2.2.2.2.2.2.2.1)), ())).bind fun r1 => (
  (V7 ((List.getD (List.set x.2.1 0 (IntKind.i64.wrap r1.1)) 0 0), ())).bind fun r2 => (
  if (r2 = (⟨#[]⟩ : ByteArray)) then
   ke (.inl ((List.getD (List.set [0] 0 (211:Int)) 0 0), (List.set x.2.1 0 (IntKind.i64.wrap r1.1)), x.2.2.1, x.2.2.2.1, x.2.2.2.2.1, x.2.2.2.2.2.1, x.2.2.2.2.2.2.1, x.2.2.2.2.2.2.2.1, x.2.2.2.2.2.2.2.2.1, x.2.2.2.2.2.2.2.2.2.1, ()))
  else
   if ((List.getD (List.set x.2.1 0 (IntKind.i64.wrap r1.1)) 0 0) = (1:Int)) then
    if (3 + 1) * 16 ≤ 140737488355328 then (
    if (4 + 2) * 16 ≤ 140737488355328 then (
    if (6 + 1) * 16 ≤ 140737488355328 then (
    if (7 + 1) * 16 ≤ 140737488355328 then (
    H9 N _ ((List.set x.2.1 0 (IntKind.i64.wrap r1.1)), x.2.2.1, x.2.2.2.1, x.2.2.2.2.1, x.2.2.2.2.2.1, x.2.2.2.2.2.2.1, x.2.2.2.2.2.2.2.1, x.2.2.2.2.2.2.2.2.1, x.2.2.2.2.2.2.2.2.2.1, (x.1 - 1), (x.1 - 1), (List.getD (List.set [0] 0 (1024:Int)) 0 0), (List.getD (List.set [0] 0 (6446:Int)) 0 0), x.2.2.2.2.2.2.2.2.2.2.1, x.2.2.2.2.2.2.2.2.2.2.2.1, ()) fun y => (match y with
    | .inl y13 => (
     ke (.inl (y13.1, y13.2.1, y13.2.2.1, y13.2.2.2.1, y13.2.2.2.2.1, y13.2.2.2.2.2.1, y13.2.2.2.2.2.2.1, y13.2.2.2.2.2.2.2.1, y13.2.2.2.2.2.2.2.2.1, y13.2.2.2.2.2.2.2.2.2.1, ())))
    | .inr (.inl y14) => (
     ke (.inr (.inl (y14.1, y14.2.1, y14.2.2.1, y14.2.2.2.1, y14.2.2.2.2.1, y14.2.2.2.2.2.1, y14.2.2.2.2.2.2.1, y14.2.2.2.2.2.2.2.1, y14.2.2.2.2.2.2.2.2.1, y14.2.2.2.2.2.2.2.2.2.1, y14.2.2.2.2.2.2.2.2.2.2.1, y14.2.2.2.2.2.2.2.2.2.2.2.1, y14.2.2.2.2.2.2.2.2.2.2.2.2.1, ()))))
    | .inr (.inr y15) => (
     F3 N _ (y15.1, y15.2.1, y15.2.2.1, y15.2.2.2.1, y15.2.2.2.2.1, y15.2.2.2.2.2.1, y15.2.2.2.2.2.2.1, y15.2.2.2.2.2.2.2.1, y15.2.2.2.2.2.2.2.2.1, y15.2.2.2.2.2.2.2.2.2.1, y15.2.2.2.2.2.2.2.2.2.2.1, y15.2.2.2.2.2.2.2.2.2.2.2.1, y15.2.2.2.2.2.2.2.2.2.2.2.2.1, y15.2.2.2.2.2.2.2.2.2.2.2.2.2.1, y15.2.2.2.2.2.2.2.2.2.2.2.2.2.2.1, y15.2.2.2.2.2.2.2.2.2.2.2.2.2.2.2.1, y15.2.2.2.2.2.2.2.2.2.2.2.2.2.2.2.2.1, y15.2.2.2.2.2.2.2.2.2.2.2.2.2.2.2.2.2.1, y15.2.2.2.2.2.2.2.2.2.2.2.2.2.2.2.2.2.2.1, y15.2.2.2.2.2.2.2.2.2.2.2.2.2.2.2.2.2.2.2.1, ()) fun y => (match y with
     | .inl y17 => (
      ke (.inr (.inr (.inl (y17.1, y17.2.1, y17.2.2.1, y17.2.2.2.1, y17.2.2.2.2.1, y17.2.2.2.2.2.1, y17.2.2.2.2.2.2.1, y17.2.2.2.2.2.2.2.1, y17.2.2.2.2.2.2.2.2.1, y17.2.2.2.2.2.2.2.2.2.1, y17.2.2.2.2.2.2.2.2.2.2.1, y17.2.2.2.2.2.2.2.2.2.2.2.1, y17.2.2.2.2.2.2.2.2.2.2.2.2.1, y17.2.2.2.2.2.2.2.2.2.2.2.2.2.1, y17.2.2.2.2.2.2.2.2.2.2.2.2.2.2.1, y17.2.2.2.2.2.2.2.2.2.2.2.2.2.2.2.1, ())))))
     | .inr y18 => (
      ke (.inr (.inr (.inr (.inl (y18.1, y18.2.1, y18.2.2.1, y18.2.2.2.1, y18.2.2.2.2.1, y18.2.2.2.2.2.1, y18.2.2.2.2.2.2.1, y18.2.2.2.2.2.2.2.1, y18.2.2.2.2.2.2.2.2.1, y18.2.2.2.2.2.2.2.2.2.1, y18.2.2.2.2.2.2.2.2.2.2.1, y18.2.2.2.2.2.2.2.2.2.2.2.1, y18.2.2.2.2.2.2.2.2.2.2.2.2.1, y18.2.2.2.2.2.2.2.2.2.2.2.2.2.1, y18.2.2.2.2.2.2.2.2.2.2.2.2.2.2.1, ())))))))))) else none) else none) else none) else none
   else
    if ((List.getD (List.set x.2.1 0 (IntKind.i64.wrap r1.1)) 0 0) = (2:Int)) then
     if (3 + 1) * 16 ≤ 140737488355328 then (
     if (4 + 2) * 16 ≤ 140737488355328 then (
     if (6 + 1) * 16 ≤ 140737488355328 then (
     if (7 + 1) * 16 ≤ 140737488355328 then (
     D2 N _ ((List.set x.2.1 0 (IntKind.i64.wrap r1.1)), x.2.2.1, x.2.2.2.1, x.2.2.2.2.1, x.2.2.2.2.2.1, x.2.2.2.2.2.2.1, x.2.2.2.2.2.2.2.1, x.2.2.2.2.2.2.2.2.1, x.2.2.2.2.2.2.2.2.2.1, (x.1 - 1), (x.1 - 1), (List.getD (List.set [0] 0 (6446:Int)) 0 0), (List.getD (List.set [0] 0 (3309:Int)) 0 0), x.2.2.2.2.2.2.2.2.2.2.1, x.2.2.2.2.2.2.2.2.2.2.2.1, ()) fun y => (match y with
     | .inl y29 => (
      ke (.inl (y29.1, y29.2.1, y29.2.2.1, y29.2.2.2.1, y29.2.2.2.2.1, y29.2.2.2.2.2.1, y29.2.2.2.2.2.2.1, y29.2.2.2.2.2.2.2.1, y29.2.2.2.2.2.2.2.2.1, y29.2.2.2.2.2.2.2.2.2.1, ())))
     | .inr (.inl y30) => (
      ke (.inr (.inr (.inr (.inr (.inl (y30.1, y30.2.1, y30.2.2.1, y30.2.2.2.1, y30.2.2.2.2.1, y30.2.2.2.2.2.1, y30.2.2.2.2.2.2.1, y30.2.2.2.2.2.2.2.1, y30.2.2.2.2.2.2.2.2.1, y30.2.2.2.2.2.2.2.2.2.1, y30.2.2.2.2.2.2.2.2.2.2.1, y30.2.2.2.2.2.2.2.2.2.2.2.1, y30.2.2.2.2.2.2.2.2.2.2.2.2.1, ())))))))
     | .inr (.inr y31) => (
      A4 N _ (y31.1, y31.2.1, y31.2.2.1, y31.2.2.2.1, y31.2.2.2.2.1, y31.2.2.2.2.2.1, y31.2.2.2.2.2.2.1, y31.2.2.2.2.2.2.2.1, y31.2.2.2.2.2.2.2.2.1, y31.2.2.2.2.2.2.2.2.2.1, y31.2.2.2.2.2.2.2.2.2.2.1, y31.2.2.2.2.2.2.2.2.2.2.2.1, y31.2.2.2.2.2.2.2.2.2.2.2.2.1, y31.2.2.2.2.2.2.2.2.2.2.2.2.2.1, y31.2.2.2.2.2.2.2.2.2.2.2.2.2.2.1, y31.2.2.2.2.2.2.2.2.2.2.2.2.2.2.2.1, y31.2.2.2.2.2.2.2.2.2.2.2.2.2.2.2.2.1, y31.2.2.2.2.2.2.2.2.2.2.2.2.2.2.2.2.2.1, y31.2.2.2.2.2.2.2.2.2.2.2.2.2.2.2.2.2.2.1, y31.2.2.2.2.2.2.2.2.2.2.2.2.2.2.2.2.2.2.2.1, ()) fun y => (match y with
      | .inl y33 => (
       ke (.inr (.inr (.inr (.inr (.inr (.inl (y33.1, y33.2.1, y33.2.2.1, y33.2.2.2.1, y33.2.2.2.2.1, y33.2.2.2.2.2.1, y33.2.2.2.2.2.2.1, y33.2.2.2.2.2.2.2.1, y33.2.2.2.2.2.2.2.2.1, y33.2.2.2.2.2.2.2.2.2.1, y33.2.2.2.2.2.2.2.2.2.2.1, y33.2.2.2.2.2.2.2.2.2.2.2.1, y33.2.2.2.2.2.2.2.2.2.2.2.2.1, y33.2.2.2.2.2.2.2.2.2.2.2.2.2.1, y33.2.2.2.2.2.2.2.2.2.2.2.2.2.2.1, y33.2.2.2.2.2.2.2.2.2.2.2.2.2.2.2.1, ()))))))))
      | .inr y34 => (
       ke (.inr (.inr (.inr (.inr (.inr (.inr (.inl (y34.1, y34.2.1, y34.2.2.1, y34.2.2.2.1, y34.2.2.2.2.1, y34.2.2.2.2.2.1, y34.2.2.2.2.2.2.1, y34.2.2.2.2.2.2.2.1, y34.2.2.2.2.2.2.2.2.1, y34.2.2.2.2.2.2.2.2.2.1, y34.2.2.2.2.2.2.2.2.2.2.1, y34.2.2.2.2.2.2.2.2.2.2.2.1, y34.2.2.2.2.2.2.2.2.2.2.2.2.1, y34.2.2.2.2.2.2.2.2.2.2.2.2.2.1, y34.2.2.2.2.2.2.2.2.2.2.2.2.2.2.1, ()))))))))))))) else none) else none) else none) else none
    else
     if ((List.getD (List.set x.2.1 0 (IntKind.i64.wrap r1.1)) 0 0) = (3:Int)) then
      if (3 + 1) * 16 ≤ 140737488355328 then (
      if (4 + 1) * 16 ≤ 140737488355328 then (
      if (5 + 1) * 16 ≤ 140737488355328 then (
      D3 N _ ((List.set x.2.1 0 (IntKind.i64.wrap r1.1)), x.2.2.1, x.2.2.2.1, x.2.2.2.2.1, x.2.2.2.2.2.1, x.2.2.2.2.2.2.1, x.2.2.2.2.2.2.2.1, x.2.2.2.2.2.2.2.2.1, x.2.2.2.2.2.2.2.2.2.1, (x.1 - 1), (x.1 - 1), (List.getD (List.set [0] 0 (1024:Int)) 0 0), x.2.2.2.2.2.2.2.2.2.2.1, x.2.2.2.2.2.2.2.2.2.2.2.1, ()) fun y => (match y with
      | .inl y42 => (
       ke (.inl (y42.1, y42.2.1, y42.2.2.1, y42.2.2.2.1, y42.2.2.2.2.1, y42.2.2.2.2.2.1, y42.2.2.2.2.2.2.1, y42.2.2.2.2.2.2.2.1, y42.2.2.2.2.2.2.2.2.1, y42.2.2.2.2.2.2.2.2.2.1, ())))
      | .inr y43 => (
       o7 N _ (y43.1, y43.2.1, y43.2.2.1, y43.2.2.2.1, y43.2.2.2.2.1, y43.2.2.2.2.2.1, y43.2.2.2.2.2.2.1, y43.2.2.2.2.2.2.2.1, y43.2.2.2.2.2.2.2.2.1, y43.2.2.2.2.2.2.2.2.2.1, y43.2.2.2.2.2.2.2.2.2.2.1, y43.2.2.2.2.2.2.2.2.2.2.2.1, y43.2.2.2.2.2.2.2.2.2.2.2.2.1, y43.2.2.2.2.2.2.2.2.2.2.2.2.2.1, y43.2.2.2.2.2.2.2.2.2.2.2.2.2.2.1, y43.2.2.2.2.2.2.2.2.2.2.2.2.2.2.2.1, y43.2.2.2.2.2.2.2.2.2.2.2.2.2.2.2.2.1, ()) fun y => (match y with
       | .inl y45 => (
        ke (.inr (.inl (y45.1, y45.2.1, y45.2.2.1, y45.2.2.2.1, y45.2.2.2.2.1, y45.2.2.2.2.2.1, y45.2.2.2.2.2.2.1, y45.2.2.2.2.2.2.2.1, y45.2.2.2.2.2.2.2.2.1, y45.2.2.2.2.2.2.2.2.2.1, y45.2.2.2.2.2.2.2.2.2.2.1, y45.2.2.2.2.2.2.2.2.2.2.2.1, y45.2.2.2.2.2.2.2.2.2.2.2.2.1, ()))))
       | .inr y46 => (
        ke (.inr (.inr (.inr (.inr (.inr (.inr (.inr (.inl (y46.1, y46.2.1, y46.2.2.1, y46.2.2.2.1, y46.2.2.2.2.1, y46.2.2.2.2.2.1, y46.2.2.2.2.2.2.1, y46.2.2.2.2.2.2.2.1, y46.2.2.2.2.2.2.2.2.1, y46.2.2.2.2.2.2.2.2.2.1, y46.2.2.2.2.2.2.2.2.2.2.1, y46.2.2.2.2.2.2.2.2.2.2.2.1, ())))))))))))))) else none) else none) else none
     else
      if ((List.getD (List.set x.2.1 0 (IntKind.i64.wrap r1.1)) 0 0) = (4:Int)) then
       if (3 + 1) * 16 ≤ 140737488355328 then (
       if (4 + 1) * 16 ≤ 140737488355328 then (
       D4 N _ ((List.set x.2.1 0 (IntKind.i64.wrap r1.1)), x.2.2.1, x.2.2.2.1, x.2.2.2.2.1, x.2.2.2.2.2.1, x.2.2.2.2.2.2.1, x.2.2.2.2.2.2.2.1, x.2.2.2.2.2.2.2.2.1, x.2.2.2.2.2.2.2.2.2.1, (x.1 - 1), (x.1 - 1), (List.getD (List.set [0] 0 (1024:Int)) 0 0), x.2.2.2.2.2.2.2.2.2.2.1, x.2.2.2.2.2.2.2.2.2.2.2.1, ()) fun y => (match y with
       | .inl y53 => (
        ke (.inl (y53.1, y53.2.1, y53.2.2.1, y53.2.2.2.1, y53.2.2.2.2.1, y53.2.2.2.2.2.1, y53.2.2.2.2.2.2.1, y53.2.2.2.2.2.2.2.1, y53.2.2.2.2.2.2.2.2.1, y53.2.2.2.2.2.2.2.2.2.1, ())))
       | .inr y54 => (
        o7 N _ (y54.1, y54.2.1, y54.2.2.1, y54.2.2.2.1, y54.2.2.2.2.1, y54.2.2.2.2.2.1, y54.2.2.2.2.2.2.1, y54.2.2.2.2.2.2.2.1, y54.2.2.2.2.2.2.2.2.1, y54.2.2.2.2.2.2.2.2.2.1, y54.2.2.2.2.2.2.2.2.2.2.1, y54.2.2.2.2.2.2.2.2.2.2.2.1, y54.2.2.2.2.2.2.2.2.2.2.2.2.1, y54.2.2.2.2.2.2.2.2.2.2.2.2.2.1, y54.2.2.2.2.2.2.2.2.2.2.2.2.2.2.1, y54.2.2.2.2.2.2.2.2.2.2.2.2.2.2.2.1, y54.2.2.2.2.2.2.2.2.2.2.2.2.2.2.2.2.1, ()) fun y => (match y with
        | .inl y55 => (
         ke (.inr (.inl (y55.1, y55.2.1, y55.2.2.1, y55.2.2.2.1, y55.2.2.2.2.1, y55.2.2.2.2.2.1, y55.2.2.2.2.2.2.1, y55.2.2.2.2.2.2.2.1, y55.2.2.2.2.2.2.2.2.1, y55.2.2.2.2.2.2.2.2.2.1, y55.2.2.2.2.2.2.2.2.2.2.1, y55.2.2.2.2.2.2.2.2.2.2.2.1, y55.2.2.2.2.2.2.2.2.2.2.2.2.1, ()))))
        | .inr y56 => (
         ke (.inr (.inr (.inr (.inr (.inr (.inr (.inr (.inl (y56.1, y56.2.1, y56.2.2.1, y56.2.2.2.1, y56.2.2.2.2.1, y56.2.2.2.2.2.1, y56.2.2.2.2.2.2.1, y56.2.2.2.2.2.2.2.1, y56.2.2.2.2.2.2.2.2.1, y56.2.2.2.2.2.2.2.2.2.1, y56.2.2.2.2.2.2.2.2.2.2.1, y56.2.2.2.2.2.2.2.2.2.2.2.1, ())))))))))))))) else none) else none
      else
       if ((List.getD (List.set x.2.1 0 (IntKind.i64.wrap r1.1)) 0 0) = (5:Int)) then
        if (3 + 1) * 16 ≤ 140737488355328 then (
        if (4 + 2) * 16 ≤ 140737488355328 then (
        if (6 + 1) * 16 ≤ 140737488355328 then (
        s6 N _ ((List.set x.2.1 0 (IntKind.i64.wrap r1.1)), x.2.2.1, x.2.2.2.1, x.2.2.2.2.1, x.2.2.2.2.2.1, x.2.2.2.2.2.2.1, x.2.2.2.2.2.2.2.1, x.2.2.2.2.2.2.2.2.1, x.2.2.2.2.2.2.2.2.2.1, (x.1 - 1), (x.1 - 1), (List.getD (List.set [0] 0 (3309:Int)) 0 0), x.2.2.2.2.2.2.2.2.2.2.1, x.2.2.2.2.2.2.2.2.2.2.2.1, ()) fun y => (match y with
        | .inl y65 => (
         ke (.inl (y65.1, y65.2.1, y65.2.2.1, y65.2.2.2.1, y65.2.2.2.2.1, y65.2.2.2.2.2.1, y65.2.2.2.2.2.2.1, y65.2.2.2.2.2.2.2.1, y65.2.2.2.2.2.2.2.2.1, y65.2.2.2.2.2.2.2.2.2.1, ())))
        | .inr y66 => (
         o8 N _ (y66.1, y66.2.1, y66.2.2.1, y66.2.2.2.1, y66.2.2.2.2.1, y66.2.2.2.2.2.1, y66.2.2.2.2.2.2.1, y66.2.2.2.2.2.2.2.1, y66.2.2.2.2.2.2.2.2.1, y66.2.2.2.2.2.2.2.2.2.1, y66.2.2.2.2.2.2.2.2.2.2.1, y66.2.2.2.2.2.2.2.2.2.2.2.1, y66.2.2.2.2.2.2.2.2.2.2.2.2.1, y66.2.2.2.2.2.2.2.2.2.2.2.2.2.1, y66.2.2.2.2.2.2.2.2.2.2.2.2.2.2.1, y66.2.2.2.2.2.2.2.2.2.2.2.2.2.2.2.1, y66.2.2.2.2.2.2.2.2.2.2.2.2.2.2.2.2.1, ()) fun y => (match y with
         | .inl y68 => (
          ke (.inr (.inr (.inr (.inr (.inr (.inr (.inr (.inr (.inl (y68.1, y68.2.1, y68.2.2.1, y68.2.2.2.1, y68.2.2.2.2.1, y68.2.2.2.2.2.1, y68.2.2.2.2.2.2.1, y68.2.2.2.2.2.2.2.1, y68.2.2.2.2.2.2.2.2.1, y68.2.2.2.2.2.2.2.2.2.1, y68.2.2.2.2.2.2.2.2.2.2.1, y68.2.2.2.2.2.2.2.2.2.2.2.1, y68.2.2.2.2.2.2.2.2.2.2.2.2.1, ())))))))))))
         | .inr y69 => (
          ke (.inr (.inr (.inr (.inr (.inr (.inr (.inr (.inr (.inr (.inl (y69.1, y69.2.1, y69.2.2.1, y69.2.2.2.1, y69.2.2.2.2.1, y69.2.2.2.2.2.1, y69.2.2.2.2.2.2.1, y69.2.2.2.2.2.2.2.1, y69.2.2.2.2.2.2.2.2.1, y69.2.2.2.2.2.2.2.2.2.1, y69.2.2.2.2.2.2.2.2.2.2.1, y69.2.2.2.2.2.2.2.2.2.2.2.1, ())))))))))))))))) else none) else none) else none
       else
        if ((List.getD (List.set x.2.1 0 (IntKind.i64.wrap r1.1)) 0 0) = (6:Int)) then
         if (3 + 1) * 16 ≤ 140737488355328 then (
         if (4 + 2) * 16 ≤ 140737488355328 then (
         if (6 + 1) * 16 ≤ 140737488355328 then (
         s6 N _ ((List.set x.2.1 0 (IntKind.i64.wrap r1.1)), x.2.2.1, x.2.2.2.1, x.2.2.2.2.1, x.2.2.2.2.2.1, x.2.2.2.2.2.2.1, x.2.2.2.2.2.2.2.1, x.2.2.2.2.2.2.2.2.1, x.2.2.2.2.2.2.2.2.2.1, (x.1 - 1), (x.1 - 1), (List.getD (List.set [0] 0 (3309:Int)) 0 0), x.2.2.2.2.2.2.2.2.2.2.1, x.2.2.2.2.2.2.2.2.2.2.2.1, ()) fun y => (match y with
         | .inl y70 => (
          ke (.inl (y70.1, y70.2.1, y70.2.2.1, y70.2.2.2.1, y70.2.2.2.2.1, y70.2.2.2.2.2.1, y70.2.2.2.2.2.2.1, y70.2.2.2.2.2.2.2.1, y70.2.2.2.2.2.2.2.2.1, y70.2.2.2.2.2.2.2.2.2.1, ())))
         | .inr y71 => (
          o8 N _ (y71.1, y71.2.1, y71.2.2.1, y71.2.2.2.1, y71.2.2.2.2.1, y71.2.2.2.2.2.1, y71.2.2.2.2.2.2.1, y71.2.2.2.2.2.2.2.1, y71.2.2.2.2.2.2.2.2.1, y71.2.2.2.2.2.2.2.2.2.1, y71.2.2.2.2.2.2.2.2.2.2.1, y71.2.2.2.2.2.2.2.2.2.2.2.1, y71.2.2.2.2.2.2.2.2.2.2.2.2.1, y71.2.2.2.2.2.2.2.2.2.2.2.2.2.1, y71.2.2.2.2.2.2.2.2.2.2.2.2.2.2.1, y71.2.2.2.2.2.2.2.2.2.2.2.2.2.2.2.1, y71.2.2.2.2.2.2.2.2.2.2.2.2.2.2.2.2.1, ()) fun y => (match y with
          | .inl y72 => (
           ke (.inr (.inr (.inr (.inr (.inr (.inr (.inr (.inr (.inl (y72.1, y72.2.1, y72.2.2.1, y72.2.2.2.1, y72.2.2.2.2.1, y72.2.2.2.2.2.1, y72.2.2.2.2.2.2.1, y72.2.2.2.2.2.2.2.1, y72.2.2.2.2.2.2.2.2.1, y72.2.2.2.2.2.2.2.2.2.1, y72.2.2.2.2.2.2.2.2.2.2.1, y72.2.2.2.2.2.2.2.2.2.2.2.1, y72.2.2.2.2.2.2.2.2.2.2.2.2.1, ())))))))))))
          | .inr y73 => (
           ke (.inr (.inr (.inr (.inr (.inr (.inr (.inr (.inr (.inr (.inl (y73.1, y73.2.1, y73.2.2.1, y73.2.2.2.1, y73.2.2.2.2.1, y73.2.2.2.2.2.1, y73.2.2.2.2.2.2.1, y73.2.2.2.2.2.2.2.1, y73.2.2.2.2.2.2.2.2.1, y73.2.2.2.2.2.2.2.2.2.1, y73.2.2.2.2.2.2.2.2.2.2.1, y73.2.2.2.2.2.2.2.2.2.2.2.1, ())))))))))))))))) else none) else none) else none
        else
         D5 N _ ((List.set x.2.1 0 (IntKind.i64.wrap r1.1)), x.2.2.1, x.2.2.2.1, x.2.2.2.2.1, x.2.2.2.2.2.1, x.2.2.2.2.2.2.1, x.2.2.2.2.2.2.2.1, x.2.2.2.2.2.2.2.2.1, x.2.2.2.2.2.2.2.2.2.1, (x.1 - 1), (x.1 - 1), x.2.2.2.2.2.2.2.2.2.2.1, x.2.2.2.2.2.2.2.2.2.2.2.1, ()) fun y => (match y with
         | .inl y77 => (
          ke (.inl (y77.1, y77.2.1, y77.2.2.1, y77.2.2.2.1, y77.2.2.2.2.1, y77.2.2.2.2.2.1, y77.2.2.2.2.2.2.1, y77.2.2.2.2.2.2.2.1, y77.2.2.2.2.2.2.2.2.1, y77.2.2.2.2.2.2.2.2.2.1, ())))
         | .inr y78 => (
          A5 N _ (y78.1, y78.2.1, y78.2.2.1, y78.2.2.2.1, y78.2.2.2.2.1, y78.2.2.2.2.2.1, y78.2.2.2.2.2.2.1, y78.2.2.2.2.2.2.2.1, y78.2.2.2.2.2.2.2.2.1, y78.2.2.2.2.2.2.2.2.2.1, y78.2.2.2.2.2.2.2.2.2.2.1, y78.2.2.2.2.2.2.2.2.2.2.2.1, y78.2.2.2.2.2.2.2.2.2.2.2.2.1, ()) fun y => (match y with
          | .inl y80 => (
           ke (.inl (y80.1, y80.2.1, y80.2.2.1, y80.2.2.2.1, y80.2.2.2.2.1, y80.2.2.2.2.2.1, y80.2.2.2.2.2.2.1, y80.2.2.2.2.2.2.2.1, y80.2.2.2.2.2.2.2.2.1, y80.2.2.2.2.2.2.2.2.2.1, ())))
          | .inr y81 => (
           ke (.inr (.inr (.inr (.inr (.inr (.inr (.inr (.inr (.inr (.inr (y81.1, y81.2.1, y81.2.2.1, y81.2.2.2.1, y81.2.2.2.2.1, y81.2.2.2.2.2.1, y81.2.2.2.2.2.2.1, y81.2.2.2.2.2.2.2.1, y81.2.2.2.2.2.2.2.2.1, ())))))))))))))))))) else none) else none) else none) else none
noncomputable def a6B : Go' W24 := fun y K => match y with
 | .inl y => K (.pan (.ifg 64 .i64) y.1) (fSt { tmps := V :: V :: .sc (.ptr 0 0 false) :: .sc (.ptr 1 0 false) :: pv 44 [], mem := [.live [.xs b64 (some 1), .xs b64 (some 1), .xs b64 (some 1), .xs (.int .u32) (some 1), .xs (.int .u32) (some 1), .xs (.int .u64) (some 2), .xs b64 (some 1), .xs b64 (some 1), .one (.nilsl), .one (.nilsl), .one (.nilsl)] (.own), .live [.xs b64 (some 1)] (.own)], dfr := [(55, [.ptr 0 0 false, .ptr 1 0 false])] } [.xs, .xs, .xs, .xs, .xs, .xs, .xs, .xs, .xs] y.2)
 | .inr (.inl y) => K (.pan (.ifg 64 .i64) y.1) (fSt { tmps := V :: V :: .sc (.ptr 0 0 false) :: .sc (.ptr 1 0 false) :: pv 44 [], mem := [.live [.xs b64 (some 1), .xs b64 (some 1), .xs b64 (some 1), .xs (.int .u32) (some 1), .xs (.int .u32) (some 1), .xs (.int .u64) (some 2), .xs b64 (some 1), .xs b64 (some 1), .one (.vec 2 none 1), .one (.nilsl), .one (.nilsl)] (.own), .live [.xs b64 (some 1)] (.own), .live [.xs b8 none] (.own)], dfr := [(55, [.ptr 0 0 false, .ptr 1 0 false])] } [.xs, .xs, .xs, .xs, .xs, .xs, .xs, .xs, .nat, .xs, .nat, .xs] y.2)
 | .inr (.inr (.inl y)) => K (.pan (.ifg 64 .i64) y.1) (fSt { tmps := V :: V :: .sc (.ptr 0 0 false) :: .sc (.ptr 1 0 false) :: pv 44 [], mem := [.live [.xs b64 (some 1), .xs b64 (some 1), .xs b64 (some 1), .xs (.int .u32) (some 1), .xs (.int .u32) (some 1), .xs (.int .u64) (some 2), .xs b64 (some 1), .xs b64 (some 1), .one (.vec 2 none 1), .one (.vec 3 none 1), .one (.nilsl)] (.own), .live [.xs b64 (some 1)] (.own), .live [.xs b8 none] (.own), .live [.xs b8 none] (.own)], dfr := [(55, [.ptr 0 0 false, .ptr 1 0 false])] } [.xs, .xs, .xs, .xs, .xs, .xs, .xs, .xs, .nat, .nat, .xs, .nat, .xs, .nat, .xs] y.2)
 | .inr (.inr (.inr (.inl y))) => K .ret (fSt { tmps := V :: V :: .sc (.ptr 0 0 false) :: .sc (.ptr 1 0 false) :: pv 44 [], mem := [.live [.xs b64 (some 1), .xs b64 (some 1), .xs b64 (some 1), .xs (.int .u32) (some 1), .xs (.int .u32) (some 1), .xs (.int .u64) (some 2), .xs b64 (some 1), .xs b64 (some 1), .one (.vec 2 none 1), .one (.vec 3 none 1), .one (.nilsl)] (.own), .live [.xs b64 (some 1)] (.own), .live [.xs b8 none] (.own), .live [.xs b8 none] (.own)], dfr := [(55, [.ptr 0 0 false, .ptr 1 0 false])] } [.xs, .xs, .xs, .xs, .xs, .xs, .xs, .xs, .nat, .nat, .xs, .nat, .xs, .nat, .xs] y)
 | .inr (.inr (.inr (.inr (.inl y)))) => K (.pan (.ifg 64 .i64) y.1) (fSt { tmps := V :: V :: .sc (.ptr 0 0 false) :: .sc (.ptr 1 0 false) :: pv 44 [], mem := [.live [.xs b64 (some 1), .xs b64 (some 1), .xs b64 (some 1), .xs (.int .u32) (some 1), .xs (.int .u32) (some 1), .xs (.int .u64) (some 2), .xs b64 (some 1), .xs b64 (some 1), .one (.nilsl), .one (.vec 2 none 1), .one (.nilsl)] (.own), .live [.xs b64 (some 1)] (.own), .live [.xs b8 none] (.own)], dfr := [(55, [.ptr 0 0 false, .ptr 1 0 false])] } [.xs, .xs, .xs, .xs, .xs, .xs, .xs, .xs, .nat, .xs, .nat, .xs] y.2)
 | .inr (.inr (.inr (.inr (.inr (.inl y))))) => K (.pan (.ifg 64 .i64) y.1) (fSt { tmps := V :: V :: .sc (.ptr 0 0 false) :: .sc (.ptr 1 0 false) :: pv 44 [], mem := [.live [.xs b64 (some 1), .xs b64 (some 1), .xs b64 (some 1), .xs (.int .u32) (some 1), .xs (.int .u32) (some 1), .xs (.int .u64) (some 2), .xs b64 (some 1), .xs b64 (some 1), .one (.nilsl), .one (.vec 2 none 1), .one (.vec 3 none 1)] (.own), .live [.xs b64 (some 1)] (.own), .live [.xs b8 none] (.own), .live [.xs b8 none] (.own)], dfr := [(55, [.ptr 0 0 false, .ptr 1 0 false])] } [.xs, .xs, .xs, .xs, .xs, .xs, .xs, .xs, .nat, .nat, .xs, .nat, .xs, .nat, .xs] y.2)
 | .inr (.inr (.inr (.inr (.inr (.inr (.inl y)))))) => K .ret (fSt { tmps := V :: V :: .sc (.ptr 0 0 false) :: .sc (.ptr 1 0 false) :: pv 44 [], mem := [.live [.xs b64 (some 1), .xs b64 (some 1), .xs b64 (some 1), .xs (.int .u32) (some 1), .xs (.int .u32) (some 1), .xs (.int .u64) (some 2), .xs b64 (some 1), .xs b64 (some 1), .one (.nilsl), .one (.vec 2 none 1), .one (.vec 3 none 1)] (.own), .live [.xs b64 (some 1)] (.own), .live [.xs b8 none] (.own), .live [.xs b8 none] (.own)], dfr := [(55, [.ptr 0 0 false, .ptr 1 0 false])] } [.xs, .xs, .xs, .xs, .xs, .xs, .xs, .xs, .nat, .nat, .xs, .nat, .xs, .nat, .xs] y)
 | .inr (.inr (.inr (.inr (.inr (.inr (.inr (.inl y))))))) => K .ret (fSt { tmps := V :: V :: .sc (.ptr 0 0 false) :: .sc (.ptr 1 0 false) :: pv 44 [], mem := [.live [.xs b64 (some 1), .xs b64 (some 1), .xs b64 (some 1), .xs (.int .u32) (some 1), .xs (.int .u32) (some 1), .xs (.int .u64) (some 2), .xs b64 (some 1), .xs b64 (some 1), .one (.vec 2 none 1), .one (.nilsl), .one (.nilsl)] (.own), .live [.xs b64 (some 1)] (.own), .live [.xs b8 none] (.own)], dfr := [(55, [.ptr 0 0 false, .ptr 1 0 false])] } [.xs, .xs, .xs, .xs, .xs, .xs, .xs, .xs, .nat, .xs, .nat, .xs] y)
 | .inr (.inr (.inr (.inr (.inr (.inr (.inr (.inr (.inl y)))))))) => K (.pan (.ifg 64 .i64) y.1) (fSt { tmps := V :: V :: .sc (.ptr 0 0 false) :: .sc (.ptr 1 0 false) :: pv 44 [], mem := [.live [.xs b64 (some 1), .xs b64 (some 1), .xs b64 (some 1), .xs (.int .u32) (some 1), .xs (.int .u32) (some 1), .xs (.int .u64) (some 2), .xs b64 (some 1), .xs b64 (some 1), .one (.nilsl), .one (.nilsl), .one (.vec 2 none 1)] (.own), .live [.xs b64 (some 1)] (.own), .live [.xs b8 none] (.own)], dfr := [(55, [.ptr 0 0 false, .ptr 1 0 false])] } [.xs, .xs, .xs, .xs, .xs, .xs, .xs, .xs, .nat, .xs, .nat, .xs] y.2)
 | .inr (.inr (.inr (.inr (.inr (.inr (.inr (.inr (.inr (.inl y))))))))) => K .ret (fSt { tmps := V :: V :: .sc (.ptr 0 0 false) :: .sc (.ptr 1 0 false) :: pv 44 [], mem := [.live [.xs b64 (some 1), .xs b64 (some 1), .xs b64 (some 1), .xs (.int .u32) (some 1), .xs (.int .u32) (some 1), .xs (.int .u64) (some 2), .xs b64 (some 1), .xs b64 (some 1), .one (.nilsl), .one (.nilsl), .one (.vec 2 none 1)] (.own), .live [.xs b64 (some 1)] (.own), .live [.xs b8 none] (.own)], dfr := [(55, [.ptr 0 0 false, .ptr 1 0 false])] } [.xs, .xs, .xs, .xs, .xs, .xs, .xs, .xs, .nat, .xs, .nat, .xs] y)
 | .inr (.inr (.inr (.inr (.inr (.inr (.inr (.inr (.inr (.inr y))))))))) => K .ret (fSt { tmps := V :: V :: .sc (.ptr 0 0 false) :: .sc (.ptr 1 0 false) :: pv 44 [], mem := [.live [.xs b64 (some 1), .xs b64 (some 1), .xs b64 (some 1), .xs (.int .u32) (some 1), .xs (.int .u32) (some 1), .xs (.int .u64) (some 2), .xs b64 (some 1), .xs b64 (some 1), .one (.nilsl), .one (.nilsl), .one (.nilsl)] (.own), .live [.xs b64 (some 1)] (.own)], dfr := [(55, [.ptr 0 0 false, .ptr 1 0 false])] } [.xs, .xs, .xs, .xs, .xs, .xs, .xs, .xs, .xs] y)
noncomputable def a2t (N : Nat) : LT := upd (X6 N) 8000002 (I1 a7y (T5 N) a6B)
theorem a6C (N : Nat) : OkAll p_msg_Get_E k9 N (a2t N) (w3 d7) :=
 b7V (k := 2) (a := S4 8000002 d7) (b := G1 8000002 d7) (a3h N) (by kernel_rfl) (fun x => by kernel_rfl) (fun β x K => by kernel_rfl)
end Go.Ax.TryP
set_option linter.unusedVariables false
namespace Go.Ax.TryP
open Go.Proofs
abbrev I8 : List Kd := [.sl b8]
abbrev I9 : List Kd := [.cat [.int .i64, .int .i64, .int .i64, .int .u32, .int .u32, .int .u64, .int .u64, .int .i64, .int .i64, .sl b8, .sl b8, .sl b8], .int .i64]
noncomputable def a1E (N : Nat) (x : List Int × Unit) : Option ((Int × Int × Int × Int × Int × Int × Int × Int × Int × List Int × List Int × List Int × Unit) × Int) :=
 T5 N _ ((List.length x.1), [0], [0], [0], [0], [0], (List.replicate 2 0), [0], [0], [0], (List.length x.1), x.1, ()) fun y => (match y with
 | .inl y82 => (
  some (((List.getD [0] 0 0), (List.getD [0] 0 0), (List.getD [0] 0 0), (List.getD [0] 0 0), (List.getD [0] 0 0), (List.getD (List.take 1 (List.replicate 2 0)) 0 0), (List.getD (List.drop 1 (List.replicate 2 0)) 0 0), (List.getD [0] 0 0), (List.getD [0] 0 0), [], [], [], ()), (List.getD (List.set y82.2.2.2.2.2.2.2.2.2.1 0 y82.1) 0 0)))
 | .inr (.inl y83) => (
  some (((List.getD [0] 0 0), (List.getD [0] 0 0), (List.getD [0] 0 0), (List.getD [0] 0 0), (List.getD [0] 0 0), (List.getD (List.take 1 (List.replicate 2 0)) 0 0), (List.getD (List.drop 1 (List.replicate 2 0)) 0 0), (List.getD [0] 0 0), (List.getD [0] 0 0), [], [], [], ()), (List.getD (List.set y83.2.2.2.2.2.2.2.2.2.2.1 0 y83.1) 0 0)))
 | .inr (.inr (.inl y84)) => (
  some (((List.getD [0] 0 0), (List.getD [0] 0 0), (List.getD [0] 0 0), (List.getD [0] 0 0), (List.getD [0] 0 0), (List.getD (List.take 1 (List.replicate 2 0)) 0 0), (List.getD (List.drop 1 (List.replicate 2 0)) 0 0), (List.getD [0] 0 0), (List.getD [0] 0 0), [], [], [], ()), (List.getD (List.set y84.2.2.2.2.2.2.2.2.2.2.2.1 0 y84.1) 0 0)))
 | .inr (.inr (.inr (.inl y85))) => (
  some (((List.getD y85.1 0 0), (List.getD y85.2.1 0 0), (List.getD y85.2.2.1 0 0), (List.getD y85.2.2.2.1 0 0), (List.getD y85.2.2.2.2.1 0 0), (List.getD (List.take 1 y85.2.2.2.2.2.1) 0 0), (List.getD (List.drop 1 y85.2.2.2.2.2.1) 0 0), (List.getD y85.2.2.2.2.2.2.1 0 0), (List.getD y85.2.2.2.2.2.2.2.1 0 0), y85.2.2.2.2.2.2.2.2.2.2.2.2.1, y85.2.2.2.2.2.2.2.2.2.2.2.2.2.2.1, [], ()), (List.getD y85.2.2.2.2.2.2.2.2.2.2.1 0 0)))
 | .inr (.inr (.inr (.inr (.inl y86)))) => (
  some (((List.getD [0] 0 0), (List.getD [0] 0 0), (List.getD [0] 0 0), (List.getD [0] 0 0), (List.getD [0] 0 0), (List.getD (List.take 1 (List.replicate 2 0)) 0 0), (List.getD (List.drop 1 (List.replicate 2 0)) 0 0), (List.getD [0] 0 0), (List.getD [0] 0 0), [], [], [], ()), (List.getD (List.set y86.2.2.2.2.2.2.2.2.2.2.1 0 y86.1) 0 0)))
 | .inr (.inr (.inr (.inr (.inr (.inl y87))))) => (
  some (((List.getD [0] 0 0), (List.getD [0] 0 0), (List.getD [0] 0 0), (List.getD [0] 0 0), (List.getD [0] 0 0), (List.getD (List.take 1 (List.replicate 2 0)) 0 0), (List.getD (List.drop 1 (List.replicate 2 0)) 0 0), (List.getD [0] 0 0), (List.getD [0] 0 0), [], [], [], ()), (List.getD (List.set y87.2.2.2.2.2.2.2.2.2.2.2.1 0 y87.1) 0 0)))
 | .inr (.inr (.inr (.inr (.inr (.inr (.inl y88)))))) => (
  some (((List.getD y88.1 0 0), (List.getD y88.2.1 0 0), (List.getD y88.2.2.1 0 0), (List.getD y88.2.2.2.1 0 0), (List.getD y88.2.2.2.2.1 0 0), (List.getD (List.take 1 y88.2.2.2.2.2.1) 0 0), (List.getD (List.drop 1 y88.2.2.2.2.2.1) 0 0), (List.getD y88.2.2.2.2.2.2.1 0 0), (List.getD y88.2.2.2.2.2.2.2.1 0 0), [], y88.2.2.2.2.2.2.2.2.2.2.2.2.1, y88.2.2.2.2.2.2.2.2.2.2.2.2.2.2.1, ()), (List.getD y88.2.2.2.2.2.2.2.2.2.2.1 0 0)))
 | .inr (.inr (.inr (.inr (.inr (.inr (.inr (.inl y89))))))) => (
  some (((List.getD y89.1 0 0), (List.getD y89.2.1 0 0), (List.getD y89.2.2.1 0 0), (List.getD y89.2.2.2.1 0 0), (List.getD y89.2.2.2.2.1 0 0), (List.getD (List.take 1 y89.2.2.2.2.2.1) 0 0), (List.getD (List.drop 1 y89.2.2.2.2.2.1) 0 0), (List.getD y89.2.2.2.2.2.2.1 0 0), (List.getD y89.2.2.2.2.2.2.2.1 0 0), y89.2.2.2.2.2.2.2.2.2.2.2.1, [], [], ()), (List.getD y89.2.2.2.2.2.2.2.2.2.1 0 0)))
 | .inr (.inr (.inr (.inr (.inr (.inr (.inr (.inr (.inl y90)))))))) => (
  some (((List.getD [0] 0 0), (List.getD [0] 0 0), (List.getD [0] 0 0), (List.getD [0] 0 0), (List.getD [0] 0 0), (List.getD (List.take 1 (List.replicate 2 0)) 0 0), (List.getD (List.drop 1 (List.replicate 2 0)) 0 0), (List.getD [0] 0 0), (List.getD [0] 0 0), [], [], [], ()), (List.getD (List.set y90.2.2.2.2.2.2.2.2.2.2.1 0 y90.1) 0 0)))
 | .inr (.inr (.inr (.inr (.inr (.inr (.inr (.inr (.inr (.inl y91))))))))) => (
  some (((List.getD y91.1 0 0), (List.getD y91.2.1 0 0), (List.getD y91.2.2.1 0 0), (List.getD y91.2.2.2.1 0 0), (List.getD y91.2.2.2.2.1 0 0), (List.getD (List.take 1 y91.2.2.2.2.2.1) 0 0), (List.getD (List.drop 1 y91.2.2.2.2.2.1) 0 0), (List.getD y91.2.2.2.2.2.2.1 0 0), (List.getD y91.2.2.2.2.2.2.2.1 0 0), [], [], y91.2.2.2.2.2.2.2.2.2.2.2.1, ()), (List.getD y91.2.2.2.2.2.2.2.2.2.1 0 0)))
 | .inr (.inr (.inr (.inr (.inr (.inr (.inr (.inr (.inr (.inr y92))))))))) => (
  some (((List.getD y92.1 0 0), (List.getD y92.2.1 0 0), (List.getD y92.2.2.1 0 0), (List.getD y92.2.2.2.1 0 0), (List.getD y92.2.2.2.2.1 0 0), (List.getD (List.take 1 y92.2.2.2.2.2.1) 0 0), (List.getD (List.drop 1 y92.2.2.2.2.2.1) 0 0), (List.getD y92.2.2.2.2.2.2.1 0 0), (List.getD y92.2.2.2.2.2.2.2.1 0 0), [], [], [], ()), (List.getD y92.2.2.2.2.2.2.2.2.1 0 0))))
theorem a8W (e0 : i1 Try.prog 14 V3) (e1 : i1 Try.prog 25 M0) (e2 : i1 Try.prog 67 E5) (e3 : i1 Try.prog 42 l6) : p_msg_Get_E.Ok Try.prog := AE.ofA_ok (all_cons a0a (all_cons V0 (all_cons s5 (all_cons H7 (all_cons a9v (all_cons a9x (all_cons b5p (all_cons b2a (all_cons b2b c6))))))))) (all_cons ⟨e0, a1m⟩ (all_cons ⟨e1, a0N⟩ c6)) c6 (all_cons ⟨a41, a43⟩ c6) c6 (all_cons ⟨(G3 e2), E0⟩ (all_cons ⟨a1r, V6⟩ (all_cons ⟨(a2k e2 e3), a00⟩ c6))) c6 c6 c6 c6
theorem a99 (hE : p_msg_Get_E.Ok Try.prog) {g : Ds I8 → Option (Rs I9)} (hg : ∀ x r, g x = some r → ∃ N, a1E N x = some r) : i1 Try.prog 32 ⟨I8, I9, g⟩ :=
 o9 (E := p_msg_Get_E) (H := k9) (L := fun N => a2t N) (c := d7) (ks := I8) (rs := I9) (F := a1E) hE mix Try.func32 (by kernel_rfl) (fun N => a6C N) (fun _ _ => by kernel_rfl) hg
end Go.Ax.TryP
set_option linter.unusedVariables false
namespace Go.Ax.TryP
open Go.Proofs
theorem mN {b c : List Int} (hb : bytes b) {w o L : Nat} {wi : Int} {Z : Option (Ms × Int)} {G : Int × Int → Option (Ms × Int)} {K : Int → List Int → Int ⊕ (Ms × List Int)} (hwi : wi = (w : Int)) (hw : 1 ≤ w ∧ w ≤ 8) (hc : c = b.drop o) (hL : L = b.length - o) (hZ : Z = some (zM, 8))
  (hG : ∀ n, 0 ≤ n → n < 256 ^ w → o + w ≤ b.length → G (n, 0) = some (b5y (K n (c.drop w)))) :
  (if ((L : Nat) : Int) < wi then Z else if 0 ≤ wi then (if wi ≤ ((L : Nat) : Int) then (if 0 ≤ wi then (if wi ≤ ((L : Nat) : Int) then (d0 (List.take w (List.drop o b), ())).bind G else none) else none) else none) else none) = some (b5y (rdN w c K)) := by
 subst hwi hc hL
 unfold rdN
 by_cases h : b.length - o < w
 ·rw [if_pos (by omega), if_pos (by rw [List.length_drop]; exact h), hZ]; rfl
 ·have hl : (List.take w (List.drop o b)).length = w := by rw [List.length_take, List.length_drop]; omega
  have hbb : bytes (List.take w (List.drop o b)) := a2h (a77 hb o) w
  have hn := a8e w hl hbb
  rw [if_neg (by omega), if_pos (by omega), if_pos (by omega), if_pos (by omega), if_pos (by omega), b5K hbb (by omega), Option.bind_some, hG _ hn.1 hn.2 (by omega), if_neg (by rw [List.length_drop]; omega)]
theorem mX {b c : List Int} (hb : bytes b) (hbl : b.length ≤ 1000000) {o L : Nat} {n most wm : Int} {Z3 Z8 : Option (Ms × Int)} {G : List Int → Option (Ms × Int)} {K : List Int → List Int → Int ⊕ (Ms × List Int)} (h0 : 0 ≤ n) (h1 : n ≤ 65535) (ho : o ≤ b.length) (hwm : wm = most) (hc : c = b.drop o) (hL : L = b.length - o)
  (h3 : Z3 = some (zM, 3)) (h8 : Z8 = some (zM, 8)) (hG : ∀ t, bytes t → t.length = n.toNat → (t.length : Int) ≤ most → o + n.toNat ≤ b.length → G t = some (b5y (K t (c.drop n.toNat)))) :
  (if n > wm then Z3 else if n = n then (if IntKind.i64.wrap n = IntKind.i64.wrap n then (if ((L : Nat) : Int) < IntKind.i64.wrap n then Z8 else if 0 ≤ IntKind.i64.wrap n then (if IntKind.i64.wrap n ≤ ((L : Nat) : Int) then (if 0 ≤ IntKind.i64.wrap n then (if IntKind.i64.wrap n ≤ ((L : Nat) : Int) then (if n = n then (if IntKind.i64.wrap n = IntKind.i64.wrap n then
   (i0 (List.take (IntKind.i64.wrap n).toNat (List.drop o b), ())).bind fun r => if n = n then (if IntKind.i64.wrap n = IntKind.i64.wrap n then G r else none) else none else none) else none) else none) else none) else none) else none) else none) else none)
   = some (b5y (if most < n then .inl 3 else if c.length < n.toNat then .inl 8 else K (c.take n.toNat) (c.drop n.toNat))) := by
 subst hwm hc hL
 rw [i2 (x := n) (by omega) (by omega)]
 by_cases hm : wm < n
 ·rw [if_pos hm, if_pos hm, h3]; rfl
 ·rw [if_neg hm, if_neg hm, if_pos rfl, if_pos rfl]
  by_cases h : b.length - o < n.toNat
  ·rw [if_pos (by omega), if_pos (by rw [List.length_drop]; exact h), h8]; rfl
  ·have hl : (List.take n.toNat (List.drop o b)).length = n.toNat := by rw [List.length_take, List.length_drop]; omega
   have hbb : bytes (List.take n.toNat (List.drop o b)) := a2h (a77 hb o) _
   rw [if_neg (by omega), if_pos (by omega), if_pos (by omega), if_pos (by omega), if_pos (by omega), if_pos rfl, if_pos rfl, b5N (by omega) hbb, Option.bind_some, if_pos rfl, if_pos rfl, hG _ hbb hl (by omega) (by omega), if_neg (by rw [List.length_drop]; omega)]
theorem mE {c : List Int} {L : Nat} {m : Ms} (hm : a19 m) {Z : Option (Ms × Int)} {G : Int → Option (Ms × Int)} (hL : L = c.length) (hZ : Z = some (zM, 212)) (hG : ∀ e, G e = if e ≠ 0 then some (zM, e) else some (m, 0)) :
  (if ((L : Nat) : Int) > 0 then Z else (u2 (m, ())).bind G) = some (b5y (.inr (m, c))) := by
 subst hL
 unfold b5y
 by_cases h : c.length > 0
 ·rw [if_pos (by omega), hZ]
  simp [h]
 ·rw [if_neg (by omega), b2o hm, Option.bind_some, hG]
  simp only [h, if_false]
  by_cases hc : x8 m = 0
  ·rw [if_neg (not_not_intro hc), if_pos hc]
  ·rw [if_pos hc, if_neg hc]
end Go.Ax.TryP
set_option linter.unusedVariables false
set_option linter.unusedSimpArgs false
namespace Go.Ax.TryP
open Go.Proofs
theorem b43 : ∀ x r, I4 x = some r → ∃ N, a1E N x = some r := by
 refine j7 (ks := I8) (rs := I9) fun x hw hq => ⟨0, ?_⟩
 obtain ⟨(b : List Int), u⟩ := x
 obtain ⟨_, hb⟩ : b.length ≤ maxLen ∧ bytes b := V1.1 hw.1
 have hl : b.length ≤ 1000000 := hq
 have hM := b8o
 have e1 : (256 : Int) ^ 1 = 256 := by decide
 have e2 : (256 : Int) ^ 2 = 65536 := by decide
 have e4 : (256 : Int) ^ 4 = 4294967296 := by decide
 have e8 : (256 : Int) ^ 8 = 18446744073709551616 := by decide
 show a1E 0 (b, u) = some (b3h b)
 unfold a1E T5 b3h rdA
 dsimp only
 refine mN hb (w := 1) (o := 0) rfl (by omega) rfl (by omega) rfl fun n0 a0 b0 k0 => ?_
 rw [i2 (x := n0) (by omega) (by omega)]
 try dsimp only
 rw [g1 n0, b4a (by omega), Option.bind_some]
 by_cases hn : a5b n0 = ⟨#[]⟩
 ·rw [if_pos hn, if_pos hn]; rfl
 rw [if_neg hn, if_neg hn]
 rcases a9S n0 with ⟨ek, e⟩ | ⟨ek, e⟩ | ⟨ek, e⟩ | ⟨ek, e⟩ | ⟨ek, e⟩ | ⟨ek, e⟩ | ⟨d1, d2, d3, d4, d5, d6, e⟩ <;> rw [e]
 ·refine (if_pos ek).trans ?_
  refine (if_pos (by decide)).trans ?_
  refine (if_pos (by decide)).trans ?_
  refine (if_pos (by decide)).trans ?_
  refine (if_pos (by decide)).trans ?_
  unfold H9
  try dsimp only
  refine mN hb (w := 1) rfl (by omega) (by simp only [List.drop_drop]; first | done | exact congrArg (fun j => List.drop j b) (by (try simp only [c8]) <;> omega)) (by first | rfl | omega | (simp only [d8, c8] at * <;> omega)) rfl fun n1 a1 b1 k1 => ?_
  rw [i2 (x := n1) (by omega) (by omega)]
  try dsimp only
  refine mN hb (w := 1) rfl (by omega) (by simp only [List.drop_drop]; first | done | exact congrArg (fun j => List.drop j b) (by (try simp only [c8]) <;> omega)) (by first | rfl | omega | (simp only [d8, c8] at * <;> omega)) rfl fun n2 a2 b2 k2 => ?_
  rw [i2 (x := n2) (by omega) (by omega)]
  try dsimp only
  refine mN hb (w := 4) rfl (by omega) (by simp only [List.drop_drop]; first | done | exact congrArg (fun j => List.drop j b) (by (try simp only [c8]) <;> omega)) (by first | rfl | omega | (simp only [d8, c8] at * <;> omega)) rfl fun n3 a3 b3 k3 => ?_
  rw [w32 (n := n3) (by omega) (by omega)]
  try dsimp only
  rw [b0C]
  refine mN hb (w := 4) rfl (by omega) (by simp only [List.drop_drop]; first | done | exact congrArg (fun j => List.drop j b) (by (try simp only [c8]) <;> omega)) (by first | rfl | omega | (simp only [d8, c8] at * <;> omega)) rfl fun n4 a4 b4 k4 => ?_
  try dsimp only
  rw [w32 (n := n4) (by omega) (by omega)]
  rw [b0D]
  refine mN hb (w := 8) rfl (by omega) (by simp only [List.drop_drop]; first | done | exact congrArg (fun j => List.drop j b) (by (try simp only [c8]) <;> omega)) (by first | rfl | omega | (simp only [d8, c8] at * <;> omega)) rfl fun n5 a5 b5 k5 => ?_
  try dsimp only
  refine mN hb (w := 8) rfl (by omega) (by simp only [List.drop_drop]; first | done | exact congrArg (fun j => List.drop j b) (by (try simp only [c8]) <;> omega)) (by first | rfl | omega | (simp only [d8, c8] at * <;> omega)) rfl fun n6 a6 b6 k6 => ?_
  try dsimp only
  rw [b3F]
  unfold rdT
  refine mN hb (w := 2) rfl (by omega) (by simp only [List.drop_drop]; first | done | exact congrArg (fun j => List.drop j b) (by (try simp only [c8]) <;> omega)) (by first | rfl | omega | (simp only [d8, c8] at * <;> omega)) rfl fun n7 a7 b7 k7 => ?_
  try dsimp only
  refine mX (K := fun t b2 => a4v [99] (n0, n1, n2, n3, n4, n5, n6, 0, 0, t, [], [], ()) b2) hb hl (by omega) (by omega) (by first | omega | (simp only [c8] at * <;> omega)) rfl (by simp only [List.drop_drop]; first | done | exact congrArg (fun j => List.drop j b) (by (try simp only [c8]) <;> omega)) (by first | rfl | omega | (simp only [d8, c8] at * <;> omega)) rfl rfl fun t7 ht7 hl7 hm7 q7 => ?_
  rw [i2 (x := n7) (by omega) (by omega)]
  try dsimp only
  rw [b6r]
  unfold rdT
  refine mN hb (w := 2) rfl (by omega) (by simp only [List.drop_drop]; first | done | exact congrArg (fun j => List.drop j b) (by (try simp only [c8]) <;> omega)) (by first | rfl | omega | (simp only [d8, c8] at * <;> omega)) rfl fun n8 a8 b8 k8 => ?_
  try dsimp only
  refine mX (K := fun t b2 => a4v [] (n0, n1, n2, n3, n4, n5, n6, 0, 0, t7, t, [], ()) b2) hb hl (by omega) (by omega) (by first | omega | (simp only [c8] at * <;> omega)) rfl (by simp only [List.drop_drop]; first | done | exact congrArg (fun j => List.drop j b) (by (try simp only [c8]) <;> omega)) (by first | rfl | omega | (simp only [d8, c8] at * <;> omega)) rfl rfl fun t8 ht8 hl8 hm8 q8 => ?_
  rw [i2 (x := n8) (by omega) (by omega)]
  try dsimp only
  have hm : a19 (n0, n1, n2, n3, n4, n5, n6, 0, 0, t7, t8, [], ()) := ⟨(by dsimp only; omega), (by dsimp only; omega), (by dsimp only; omega), (by dsimp only; omega), (by dsimp only; omega), (by dsimp only; omega), (by dsimp only; omega), (by dsimp only; omega), (by dsimp only; omega), ⟨(by dsimp only; omega), ht7⟩, ⟨(by dsimp only; omega), ht8⟩, X5⟩
  unfold F3
  try dsimp only
  refine mE hm (by simp only [List.length_drop] <;> first | omega | (simp only [d8, c8] at * <;> omega)) rfl fun e => ?_
  split <;> rfl
 ·refine (if_neg (by omega)).trans ?_
  refine (if_pos ek).trans ?_
  refine (if_pos (by decide)).trans ?_
  refine (if_pos (by decide)).trans ?_
  refine (if_pos (by decide)).trans ?_
  refine (if_pos (by decide)).trans ?_
  unfold D2
  try dsimp only
  refine mN hb (w := 1) rfl (by omega) (by simp only [List.drop_drop]; first | done | exact congrArg (fun j => List.drop j b) (by (try simp only [c8]) <;> omega)) (by first | rfl | omega | (simp only [d8, c8] at * <;> omega)) rfl fun n1 a1 b1 k1 => ?_
  rw [i2 (x := n1) (by omega) (by omega)]
  try dsimp only
  refine mN hb (w := 1) rfl (by omega) (by simp only [List.drop_drop]; first | done | exact congrArg (fun j => List.drop j b) (by (try simp only [c8]) <;> omega)) (by first | rfl | omega | (simp only [d8, c8] at * <;> omega)) rfl fun n2 a2 b2 k2 => ?_
  rw [i2 (x := n2) (by omega) (by omega)]
  try dsimp only
  refine mN hb (w := 4) rfl (by omega) (by simp only [List.drop_drop]; first | done | exact congrArg (fun j => List.drop j b) (by (try simp only [c8]) <;> omega)) (by first | rfl | omega | (simp only [d8, c8] at * <;> omega)) rfl fun n3 a3 b3 k3 => ?_
  rw [w32 (n := n3) (by omega) (by omega)]
  try dsimp only
  rw [b0C]
  refine mN hb (w := 4) rfl (by omega) (by simp only [List.drop_drop]; first | done | exact congrArg (fun j => List.drop j b) (by (try simp only [c8]) <;> omega)) (by first | rfl | omega | (simp only [d8, c8] at * <;> omega)) rfl fun n4 a4 b4 k4 => ?_
  try dsimp only
  rw [w32 (n := n4) (by omega) (by omega)]
  rw [b0D]
  refine mN hb (w := 8) rfl (by omega) (by simp only [List.drop_drop]; first | done | exact congrArg (fun j => List.drop j b) (by (try simp only [c8]) <;> omega)) (by first | rfl | omega | (simp only [d8, c8] at * <;> omega)) rfl fun n5 a5 b5 k5 => ?_
  try dsimp only
  refine mN hb (w := 8) rfl (by omega) (by simp only [List.drop_drop]; first | done | exact congrArg (fun j => List.drop j b) (by (try simp only [c8]) <;> omega)) (by first | rfl | omega | (simp only [d8, c8] at * <;> omega)) rfl fun n6 a6 b6 k6 => ?_
  try dsimp only
  rw [b6r]
  unfold rdT
  refine mN hb (w := 2) rfl (by omega) (by simp only [List.drop_drop]; first | done | exact congrArg (fun j => List.drop j b) (by (try simp only [c8]) <;> omega)) (by first | rfl | omega | (simp only [d8, c8] at * <;> omega)) rfl fun n7 a7 b7 k7 => ?_
  try dsimp only
  refine mX (K := fun t b2 => a4v [115] (n0, n1, n2, n3, n4, n5, n6, 0, 0, [], t, [], ()) b2) hb hl (by omega) (by omega) (by first | omega | (simp only [c8] at * <;> omega)) rfl (by simp only [List.drop_drop]; first | done | exact congrArg (fun j => List.drop j b) (by (try simp only [c8]) <;> omega)) (by first | rfl | omega | (simp only [d8, c8] at * <;> omega)) rfl rfl fun t7 ht7 hl7 hm7 q7 => ?_
  rw [i2 (x := n7) (by omega) (by omega)]
  try dsimp only
  rw [b3G]
  unfold rdT
  refine mN hb (w := 2) rfl (by omega) (by simp only [List.drop_drop]; first | done | exact congrArg (fun j => List.drop j b) (by (try simp only [c8]) <;> omega)) (by first | rfl | omega | (simp only [d8, c8] at * <;> omega)) rfl fun n8 a8 b8 k8 => ?_
  try dsimp only
  refine mX (K := fun t b2 => a4v [] (n0, n1, n2, n3, n4, n5, n6, 0, 0, [], t7, t, ()) b2) hb hl (by omega) (by omega) (by first | omega | (simp only [c8] at * <;> omega)) rfl (by simp only [List.drop_drop]; first | done | exact congrArg (fun j => List.drop j b) (by (try simp only [c8]) <;> omega)) (by first | rfl | omega | (simp only [d8, c8] at * <;> omega)) rfl rfl fun t8 ht8 hl8 hm8 q8 => ?_
  rw [i2 (x := n8) (by omega) (by omega)]
  try dsimp only
  have hm : a19 (n0, n1, n2, n3, n4, n5, n6, 0, 0, [], t7, t8, ()) := ⟨(by dsimp only; omega), (by dsimp only; omega), (by dsimp only; omega), (by dsimp only; omega), (by dsimp only; omega), (by dsimp only; omega), (by dsimp only; omega), (by dsimp only; omega), (by dsimp only; omega), X5, ⟨(by dsimp only; omega), ht7⟩, ⟨(by dsimp only; omega), ht8⟩⟩
  unfold A4
  try dsimp only
  refine mE hm (by simp only [List.length_drop] <;> first | omega | (simp only [d8, c8] at * <;> omega)) rfl fun e => ?_
  split <;> rfl
 ·refine (if_neg (by omega)).trans ?_
  refine (if_neg (by omega)).trans ?_
  refine (if_pos ek).trans ?_
  refine (if_pos (by decide)).trans ?_
  refine (if_pos (by decide)).trans ?_
  refine (if_pos (by decide)).trans ?_
  unfold D3
  try dsimp only
  refine mN hb (w := 1) rfl (by omega) (by simp only [List.drop_drop]; first | done | exact congrArg (fun j => List.drop j b) (by (try simp only [c8]) <;> omega)) (by first | rfl | omega | (simp only [d8, c8] at * <;> omega)) rfl fun n1 a1 b1 k1 => ?_
  rw [i2 (x := n1) (by omega) (by omega)]
  try dsimp only
  refine mN hb (w := 1) rfl (by omega) (by simp only [List.drop_drop]; first | done | exact congrArg (fun j => List.drop j b) (by (try simp only [c8]) <;> omega)) (by first | rfl | omega | (simp only [d8, c8] at * <;> omega)) rfl fun n2 a2 b2 k2 => ?_
  rw [i2 (x := n2) (by omega) (by omega)]
  try dsimp only
  refine mN hb (w := 4) rfl (by omega) (by simp only [List.drop_drop]; first | done | exact congrArg (fun j => List.drop j b) (by (try simp only [c8]) <;> omega)) (by first | rfl | omega | (simp only [d8, c8] at * <;> omega)) rfl fun n3 a3 b3 k3 => ?_
  rw [w32 (n := n3) (by omega) (by omega)]
  try dsimp only
  rw [b8v]
  refine mN hb (w := 2) rfl (by omega) (by simp only [List.drop_drop]; first | done | exact congrArg (fun j => List.drop j b) (by (try simp only [c8]) <;> omega)) (by first | rfl | omega | (simp only [d8, c8] at * <;> omega)) rfl fun n4 a4 b4 k4 => ?_
  try dsimp only
  rw [i2 (x := n4) (by omega) (by omega)]
  rw [b6s]
  refine mN hb (w := 2) rfl (by omega) (by simp only [List.drop_drop]; first | done | exact congrArg (fun j => List.drop j b) (by (try simp only [c8]) <;> omega)) (by first | rfl | omega | (simp only [d8, c8] at * <;> omega)) rfl fun n5 a5 b5 k5 => ?_
  try dsimp only
  rw [i2 (x := n5) (by omega) (by omega)]
  rw [b3F]
  unfold rdT
  refine mN hb (w := 2) rfl (by omega) (by simp only [List.drop_drop]; first | done | exact congrArg (fun j => List.drop j b) (by (try simp only [c8]) <;> omega)) (by first | rfl | omega | (simp only [d8, c8] at * <;> omega)) rfl fun n6 a6 b6 k6 => ?_
  try dsimp only
  refine mX (K := fun t b2 => a4v [] (n0, n1, n2, n3, 0, 0, 0, n4, n5, t, [], [], ()) b2) hb hl (by omega) (by omega) (by first | omega | (simp only [c8] at * <;> omega)) rfl (by simp only [List.drop_drop]; first | done | exact congrArg (fun j => List.drop j b) (by (try simp only [c8]) <;> omega)) (by first | rfl | omega | (simp only [d8, c8] at * <;> omega)) rfl rfl fun t6 ht6 hl6 hm6 q6 => ?_
  rw [i2 (x := n6) (by omega) (by omega)]
  try dsimp only
  have hm : a19 (n0, n1, n2, n3, 0, 0, 0, n4, n5, t6, [], [], ()) := ⟨(by dsimp only; omega), (by dsimp only; omega), (by dsimp only; omega), (by dsimp only; omega), (by dsimp only; omega), (by dsimp only; omega), (by dsimp only; omega), (by dsimp only; omega), (by dsimp only; omega), ⟨(by dsimp only; omega), ht6⟩, X5, X5⟩
  unfold o7
  try dsimp only
  refine mE hm (by simp only [List.length_drop] <;> first | omega | (simp only [d8, c8] at * <;> omega)) rfl fun e => ?_
  split <;> rfl
 ·refine (if_neg (by omega)).trans ?_
  refine (if_neg (by omega)).trans ?_
  refine (if_neg (by omega)).trans ?_
  refine (if_pos ek).trans ?_
  refine (if_pos (by decide)).trans ?_
  refine (if_pos (by decide)).trans ?_
  unfold D4
  try dsimp only
  refine mN hb (w := 1) rfl (by omega) (by simp only [List.drop_drop]; first | done | exact congrArg (fun j => List.drop j b) (by (try simp only [c8]) <;> omega)) (by first | rfl | omega | (simp only [d8, c8] at * <;> omega)) rfl fun n1 a1 b1 k1 => ?_
  rw [i2 (x := n1) (by omega) (by omega)]
  try dsimp only
  refine mN hb (w := 1) rfl (by omega) (by simp only [List.drop_drop]; first | done | exact congrArg (fun j => List.drop j b) (by (try simp only [c8]) <;> omega)) (by first | rfl | omega | (simp only [d8, c8] at * <;> omega)) rfl fun n2 a2 b2 k2 => ?_
  rw [i2 (x := n2) (by omega) (by omega)]
  try dsimp only
  refine mN hb (w := 4) rfl (by omega) (by simp only [List.drop_drop]; first | done | exact congrArg (fun j => List.drop j b) (by (try simp only [c8]) <;> omega)) (by first | rfl | omega | (simp only [d8, c8] at * <;> omega)) rfl fun n3 a3 b3 k3 => ?_
  rw [w32 (n := n3) (by omega) (by omega)]
  try dsimp only
  rw [b6s]
  refine mN hb (w := 2) rfl (by omega) (by simp only [List.drop_drop]; first | done | exact congrArg (fun j => List.drop j b) (by (try simp only [c8]) <;> omega)) (by first | rfl | omega | (simp only [d8, c8] at * <;> omega)) rfl fun n4 a4 b4 k4 => ?_
  try dsimp only
  rw [i2 (x := n4) (by omega) (by omega)]
  rw [b3F]
  unfold rdT
  refine mN hb (w := 2) rfl (by omega) (by simp only [List.drop_drop]; first | done | exact congrArg (fun j => List.drop j b) (by (try simp only [c8]) <;> omega)) (by first | rfl | omega | (simp only [d8, c8] at * <;> omega)) rfl fun n5 a5 b5 k5 => ?_
  try dsimp only
  refine mX (K := fun t b2 => a4v [] (n0, n1, n2, n3, 0, 0, 0, 0, n4, t, [], [], ()) b2) hb hl (by omega) (by omega) (by first | omega | (simp only [c8] at * <;> omega)) rfl (by simp only [List.drop_drop]; first | done | exact congrArg (fun j => List.drop j b) (by (try simp only [c8]) <;> omega)) (by first | rfl | omega | (simp only [d8, c8] at * <;> omega)) rfl rfl fun t5 ht5 hl5 hm5 q5 => ?_
  rw [i2 (x := n5) (by omega) (by omega)]
  try dsimp only
  have hm : a19 (n0, n1, n2, n3, 0, 0, 0, 0, n4, t5, [], [], ()) := ⟨(by dsimp only; omega), (by dsimp only; omega), (by dsimp only; omega), (by dsimp only; omega), (by dsimp only; omega), (by dsimp only; omega), (by dsimp only; omega), (by dsimp only; omega), (by dsimp only; omega), ⟨(by dsimp only; omega), ht5⟩, X5, X5⟩
  unfold o7
  try dsimp only
  refine mE hm (by simp only [List.length_drop] <;> first | omega | (simp only [d8, c8] at * <;> omega)) rfl fun e => ?_
  split <;> rfl
 ·refine (if_neg (by omega)).trans ?_
  refine (if_neg (by omega)).trans ?_
  refine (if_neg (by omega)).trans ?_
  refine (if_neg (by omega)).trans ?_
  refine (if_pos ek).trans ?_
  refine (if_pos (by decide)).trans ?_
  refine (if_pos (by decide)).trans ?_
  refine (if_pos (by decide)).trans ?_
  unfold s6
  try dsimp only
  refine mN hb (w := 1) rfl (by omega) (by simp only [List.drop_drop]; first | done | exact congrArg (fun j => List.drop j b) (by (try simp only [c8]) <;> omega)) (by first | rfl | omega | (simp only [d8, c8] at * <;> omega)) rfl fun n1 a1 b1 k1 => ?_
  rw [i2 (x := n1) (by omega) (by omega)]
  try dsimp only
  refine mN hb (w := 1) rfl (by omega) (by simp only [List.drop_drop]; first | done | exact congrArg (fun j => List.drop j b) (by (try simp only [c8]) <;> omega)) (by first | rfl | omega | (simp only [d8, c8] at * <;> omega)) rfl fun n2 a2 b2 k2 => ?_
  rw [i2 (x := n2) (by omega) (by omega)]
  try dsimp only
  refine mN hb (w := 4) rfl (by omega) (by simp only [List.drop_drop]; first | done | exact congrArg (fun j => List.drop j b) (by (try simp only [c8]) <;> omega)) (by first | rfl | omega | (simp only [d8, c8] at * <;> omega)) rfl fun n3 a3 b3 k3 => ?_
  rw [w32 (n := n3) (by omega) (by omega)]
  try dsimp only
  rw [b0C]
  refine mN hb (w := 4) rfl (by omega) (by simp only [List.drop_drop]; first | done | exact congrArg (fun j => List.drop j b) (by (try simp only [c8]) <;> omega)) (by first | rfl | omega | (simp only [d8, c8] at * <;> omega)) rfl fun n4 a4 b4 k4 => ?_
  try dsimp only
  rw [w32 (n := n4) (by omega) (by omega)]
  rw [b0D]
  refine mN hb (w := 8) rfl (by omega) (by simp only [List.drop_drop]; first | done | exact congrArg (fun j => List.drop j b) (by (try simp only [c8]) <;> omega)) (by first | rfl | omega | (simp only [d8, c8] at * <;> omega)) rfl fun n5 a5 b5 k5 => ?_
  try dsimp only
  refine mN hb (w := 8) rfl (by omega) (by simp only [List.drop_drop]; first | done | exact congrArg (fun j => List.drop j b) (by (try simp only [c8]) <;> omega)) (by first | rfl | omega | (simp only [d8, c8] at * <;> omega)) rfl fun n6 a6 b6 k6 => ?_
  try dsimp only
  rw [b3G]
  unfold rdT
  refine mN hb (w := 2) rfl (by omega) (by simp only [List.drop_drop]; first | done | exact congrArg (fun j => List.drop j b) (by (try simp only [c8]) <;> omega)) (by first | rfl | omega | (simp only [d8, c8] at * <;> omega)) rfl fun n7 a7 b7 k7 => ?_
  try dsimp only
  refine mX (K := fun t b2 => a4v [] (n0, n1, n2, n3, n4, n5, n6, 0, 0, [], [], t, ()) b2) hb hl (by omega) (by omega) (by first | omega | (simp only [c8] at * <;> omega)) rfl (by simp only [List.drop_drop]; first | done | exact congrArg (fun j => List.drop j b) (by (try simp only [c8]) <;> omega)) (by first | rfl | omega | (simp only [d8, c8] at * <;> omega)) rfl rfl fun t7 ht7 hl7 hm7 q7 => ?_
  rw [i2 (x := n7) (by omega) (by omega)]
  try dsimp only
  have hm : a19 (n0, n1, n2, n3, n4, n5, n6, 0, 0, [], [], t7, ()) := ⟨(by dsimp only; omega), (by dsimp only; omega), (by dsimp only; omega), (by dsimp only; omega), (by dsimp only; omega), (by dsimp only; omega), (by dsimp only; omega), (by dsimp only; omega), (by dsimp only; omega), X5, X5, ⟨(by dsimp only; omega), ht7⟩⟩
  unfold o8
  try dsimp only
  refine mE hm (by simp only [List.length_drop] <;> first | omega | (simp only [d8, c8] at * <;> omega)) rfl fun e => ?_
  split <;> rfl
 ·refine (if_neg (by omega)).trans ?_
  refine (if_neg (by omega)).trans ?_
  refine (if_neg (by omega)).trans ?_
  refine (if_neg (by omega)).trans ?_
  refine (if_neg (by omega)).trans ?_
  refine (if_pos ek).trans ?_
  refine (if_pos (by decide)).trans ?_
  refine (if_pos (by decide)).trans ?_
  refine (if_pos (by decide)).trans ?_
  unfold s6
  try dsimp only
  refine mN hb (w := 1) rfl (by omega) (by simp only [List.drop_drop]; first | done | exact congrArg (fun j => List.drop j b) (by (try simp only [c8]) <;> omega)) (by first | rfl | omega | (simp only [d8, c8] at * <;> omega)) rfl fun n1 a1 b1 k1 => ?_
  rw [i2 (x := n1) (by omega) (by omega)]
  try dsimp only
  refine mN hb (w := 1) rfl (by omega) (by simp only [List.drop_drop]; first | done | exact congrArg (fun j => List.drop j b) (by (try simp only [c8]) <;> omega)) (by first | rfl | omega | (simp only [d8, c8] at * <;> omega)) rfl fun n2 a2 b2 k2 => ?_
  rw [i2 (x := n2) (by omega) (by omega)]
  try dsimp only
  refine mN hb (w := 4) rfl (by omega) (by simp only [List.drop_drop]; first | done | exact congrArg (fun j => List.drop j b) (by (try simp only [c8]) <;> omega)) (by first | rfl | omega | (simp only [d8, c8] at * <;> omega)) rfl fun n3 a3 b3 k3 => ?_
  rw [w32 (n := n3) (by omega) (by omega)]
  try dsimp only
  rw [b0C]
  refine mN hb (w := 4) rfl (by omega) (by simp only [List.drop_drop]; first | done | exact congrArg (fun j => List.drop j b) (by (try simp only [c8]) <;> omega)) (by first | rfl | omega | (simp only [d8, c8] at * <;> omega)) rfl fun n4 a4 b4 k4 => ?_
  try dsimp only
  rw [w32 (n := n4) (by omega) (by omega)]
  rw [b0D]
  refine mN hb (w := 8) rfl (by omega) (by simp only [List.drop_drop]; first | done | exact congrArg (fun j => List.drop j b) (by (try simp only [c8]) <;> omega)) (by first | rfl | omega | (simp only [d8, c8] at * <;> omega)) rfl fun n5 a5 b5 k5 => ?_
  try dsimp only
  refine mN hb (w := 8) rfl (by omega) (by simp only [List.drop_drop]; first | done | exact congrArg (fun j => List.drop j b) (by (try simp only [c8]) <;> omega)) (by first | rfl | omega | (simp only [d8, c8] at * <;> omega)) rfl fun n6 a6 b6 k6 => ?_
  try dsimp only
  rw [b3G]
  unfold rdT
  refine mN hb (w := 2) rfl (by omega) (by simp only [List.drop_drop]; first | done | exact congrArg (fun j => List.drop j b) (by (try simp only [c8]) <;> omega)) (by first | rfl | omega | (simp only [d8, c8] at * <;> omega)) rfl fun n7 a7 b7 k7 => ?_
  try dsimp only
  refine mX (K := fun t b2 => a4v [] (n0, n1, n2, n3, n4, n5, n6, 0, 0, [], [], t, ()) b2) hb hl (by omega) (by omega) (by first | omega | (simp only [c8] at * <;> omega)) rfl (by simp only [List.drop_drop]; first | done | exact congrArg (fun j => List.drop j b) (by (try simp only [c8]) <;> omega)) (by first | rfl | omega | (simp only [d8, c8] at * <;> omega)) rfl rfl fun t7 ht7 hl7 hm7 q7 => ?_
  rw [i2 (x := n7) (by omega) (by omega)]
  try dsimp only
  have hm : a19 (n0, n1, n2, n3, n4, n5, n6, 0, 0, [], [], t7, ()) := ⟨(by dsimp only; omega), (by dsimp only; omega), (by dsimp only; omega), (by dsimp only; omega), (by dsimp only; omega), (by dsimp only; omega), (by dsimp only; omega), (by dsimp only; omega), (by dsimp only; omega), X5, X5, ⟨(by dsimp only; omega), ht7⟩⟩
  unfold o8
  try dsimp only
  refine mE hm (by simp only [List.length_drop] <;> first | omega | (simp only [d8, c8] at * <;> omega)) rfl fun e => ?_
  split <;> rfl
 ·refine (if_neg d1).trans ?_
  refine (if_neg d2).trans ?_
  refine (if_neg d3).trans ?_
  refine (if_neg d4).trans ?_
  refine (if_neg d5).trans ?_
  refine (if_neg d6).trans ?_
  unfold D5
  try dsimp only
  refine mN hb (w := 1) rfl (by omega) (by simp only [List.drop_drop]; first | done | exact congrArg (fun j => List.drop j b) (by (try simp only [c8]) <;> omega)) (by first | rfl | omega | (simp only [d8, c8] at * <;> omega)) rfl fun n1 a1 b1 k1 => ?_
  rw [i2 (x := n1) (by omega) (by omega)]
  try dsimp only
  refine mN hb (w := 1) rfl (by omega) (by simp only [List.drop_drop]; first | done | exact congrArg (fun j => List.drop j b) (by (try simp only [c8]) <;> omega)) (by first | rfl | omega | (simp only [d8, c8] at * <;> omega)) rfl fun n2 a2 b2 k2 => ?_
  rw [i2 (x := n2) (by omega) (by omega)]
  try dsimp only
  refine mN hb (w := 4) rfl (by omega) (by simp only [List.drop_drop]; first | done | exact congrArg (fun j => List.drop j b) (by (try simp only [c8]) <;> omega)) (by first | rfl | omega | (simp only [d8, c8] at * <;> omega)) rfl fun n3 a3 b3 k3 => ?_
  rw [w32 (n := n3) (by omega) (by omega)]
  try dsimp only
  have hm : a19 (n0, n1, n2, n3, 0, 0, 0, 0, 0, [], [], [], ()) := ⟨(by dsimp only; omega), (by dsimp only; omega), (by dsimp only; omega), (by dsimp only; omega), (by dsimp only; omega), (by dsimp only; omega), (by dsimp only; omega), (by dsimp only; omega), (by dsimp only; omega), X5, X5, X5⟩
  unfold A5
  try dsimp only
  refine mE hm (by simp only [List.length_drop] <;> first | omega | (simp only [d8, c8] at * <;> omega)) rfl fun e => ?_
  split <;> rfl
end Go.Ax.TryP
