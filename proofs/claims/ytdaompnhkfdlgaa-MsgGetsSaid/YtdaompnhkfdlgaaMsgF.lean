/- A part of the proof: MsgP4b, MsgP4c, MsgP4d, MsgP4e, MsgP4f, MsgQ17a, MsgQ17. -/
import Derived.Test.YtdaompnhkfdlgaaMsgE
set_option linter.unusedVariables false
namespace Go.Ax.TryP
open Go.Proofs
noncomputable def p_msg_Get_E : AE := AE.ofA [(3, ty3), (26, ty26), (29, ty29), (31, ty31), (33, ty33), (64, ty64), (67, ty67), (69, ty69), (73, ty73)] [(14, a01), (25, S9)] [] [(55, a5g)] [] [(56, I4), (57, a23), (58, a09)] [24, 25] [(7, 20)] [] [] [] []
noncomputable def o0 : Hints := [(7, [2, 3, 4, 22, 23, 24]), (2000000, [2, 3, 4]), (2000001, [2, 3, 4, 22, 23, 24]), (3000000, [2, 3]), (5000000, [2, 3]), (8000002, [0, 2, 3]), (8000007, [2, 3, 4, 22, 23, 24]), (8000011, [2, 3, 4])]
noncomputable def d8 : Code := (Try.f32).body.getD .skip
noncomputable def a0K : Shape where
 h := { tmps := [V, V, .sc (.ptr 0 0 false), .sc (.ptr 1 0 false), .sc (.ptr 2 0 false), V, V, V, V, V, V, V, V, V, V, V, V, V, V, V, V, V, .sc (.vec 3 (some 8) 1), .sc (.lit .i64 (8)), .sc (.lit .i64 (0)), V, V, V, V, V, V, V, V, V, V, V, V, V, V, V, V, V, V, V, V, V, V, V], mem := [.live [.xs b64 (some 1), .xs b64 (some 1), .xs b64 (some 1), .xs (.int .u32) (some 1), .xs (.int .u32) (some 1), .xs (.int .u64) (some 2), .xs b64 (some 1), .xs b64 (some 1), .one (.nilsl), .one (.nilsl), .one (.nilsl)] (.own), .live [.xs b64 (some 1)] (.own), .live [.one (.sl 4 (some 1) none none 1)] (.own), .live [.one (.ifp 95 0 1), .one (.ifp 95 0 2), .one (.ifp 98 0 3), .one (.ifp 98 0 4), .one (.ifp 101 0 5), .one (.ifp 101 0 6), .one (.ifq 81 0 9 .i64), .one (.ifq 81 0 10 .i64)] (.own), .live [.xs b8 none] (.ro)], dfr := [(55, [.ptr 0 0 false, .ptr 1 0 false])] }
 ks := [.xs, .xs, .xs, .xs, .xs, .xs, .xs, .xs, .xs, .nat, .nat, .int, .int, .nat, .xs]
 st := fun x => { tmps := [U, U, .one (.sc (.ptr 0 0 none)), .one (.sc (.ptr 1 0 none)), .one (.sc (.ptr 2 0 none)), U, U, U, U, U, U, U, U, U, U, U, U, U, U, U, U, U, .one (.sc (.vec 3 8 1)), .one (.sc (.int .i64 (8:Int))), .one (.sc (.int .i64 (0:Int))), U, U, U, U, U, U, U, U, U, U, U, U, U, U, U, U, U, U, U, U, U, U, U], mem := [.live { segs := [.xs b64 1 x.1, .xs b64 1 x.2.1, .xs b64 1 x.2.2.1, .xs (.int .u32) 1 x.2.2.2.1, .xs (.int .u32) 1 x.2.2.2.2.1, .xs (.int .u64) 2 x.2.2.2.2.2.1, .xs b64 1 x.2.2.2.2.2.2.1, .xs b64 1 x.2.2.2.2.2.2.2.1, .one (.nilsl), .one (.nilsl), .one (.nilsl)], own := .own }, .live { segs := [.xs b64 1 x.2.2.2.2.2.2.2.2.1], own := .own }, .live { segs := [.one (.sl 4 1 x.2.2.2.2.2.2.2.2.2.1 x.2.2.2.2.2.2.2.2.2.2.1 1)], own := .own }, .live { segs := [.one (.ifp 95 0 1), .one (.ifp 95 0 2), .one (.ifp 98 0 3), .one (.ifp 98 0 4), .one (.ifp 101 0 5), .one (.ifp 101 0 6), .one (.ifq 81 0 9 .i64 x.2.2.2.2.2.2.2.2.2.2.2.1), .one (.ifq 81 0 10 .i64 x.2.2.2.2.2.2.2.2.2.2.2.2.1)], own := .own }, .live { segs := [.xs b8 x.2.2.2.2.2.2.2.2.2.2.2.2.2.1 x.2.2.2.2.2.2.2.2.2.2.2.2.2.2.1], own := .ro }], dfr := [(55, [.ptr 0 0 none, .ptr 1 0 none])] }
abbrev W13 : Type := List Int × List Int × List Int × List Int × List Int × List Int × List Int × List Int × List Int × Nat × Nat × Int × Int × Nat × List Int × Unit
abbrev W14 : Type := (Int × List Int × List Int × List Int × List Int × List Int × List Int × List Int × List Int × List Int × Unit) ⊕ ((Int × List Int × List Int × List Int × List Int × List Int × List Int × List Int × List Int × Nat × List Int × Nat × List Int × Unit) ⊕ (List Int × List Int × List Int × List Int × List Int × List Int × List Int × List Int × Nat × Nat × List Int × Nat × Nat × Nat × Nat × List Int × Nat × List Int × Nat × List Int × Unit))
noncomputable def N9 (N : Nat) (β : Type) (x : W13) (ke : W14 → Option β) : Option β :=
 if (((x.2.2.2.2.2.2.2.2.2.1 : Nat) : Int) < (1:Int)) then
  ke (.inl ((List.getD (List.set [0] 0 (8:Int)) 0 0), x.1, x.2.1, x.2.2.1, x.2.2.2.1, x.2.2.2.2.1, x.2.2.2.2.2.1, x.2.2.2.2.2.2.1, x.2.2.2.2.2.2.2.1, x.2.2.2.2.2.2.2.2.1, ()))
 else
  if 0 ≤ (1:Int) then (
  if (1:Int) ≤ ((x.2.2.2.2.2.2.2.2.2.1 : Nat) : Int) then (
  if 0 ≤ (1:Int) then (
  if (1:Int) ≤ ((x.2.2.2.2.2.2.2.2.2.1 : Nat) : Int) then (
  (d7 ((List.take 1 (List.drop 1 x.2.2.2.2.2.2.2.2.2.2.2.2.2.2.1)), ())).bind fun r3 => (
  if ((((x.2.2.2.2.2.2.2.2.2.1 - 1) : Nat) : Int) < (1:Int)) then
   ke (.inl ((List.getD (List.set [0] 0 (8:Int)) 0 0), x.1, (List.set x.2.1 0 (IntKind.i64.wrap r3.1)), x.2.2.1, x.2.2.2.1, x.2.2.2.2.1, x.2.2.2.2.2.1, x.2.2.2.2.2.2.1, x.2.2.2.2.2.2.2.1, x.2.2.2.2.2.2.2.2.1, ()))
  else
   if 0 ≤ (1:Int) then (
   if (1:Int) ≤ (((x.2.2.2.2.2.2.2.2.2.1 - 1) : Nat) : Int) then (
   if 0 ≤ (1:Int) then (
   if (1:Int) ≤ (((x.2.2.2.2.2.2.2.2.2.1 - 1) : Nat) : Int) then (
   (d7 ((List.take 1 (List.drop 2 x.2.2.2.2.2.2.2.2.2.2.2.2.2.2.1)), ())).bind fun r4 => (
   if (((((x.2.2.2.2.2.2.2.2.2.1 - 1) - 1) : Nat) : Int) < (4:Int)) then
    ke (.inl ((List.getD (List.set [0] 0 (8:Int)) 0 0), x.1, (List.set x.2.1 0 (IntKind.i64.wrap r3.1)), (List.set x.2.2.1 0 (IntKind.i64.wrap r4.1)), x.2.2.2.1, x.2.2.2.2.1, x.2.2.2.2.2.1, x.2.2.2.2.2.2.1, x.2.2.2.2.2.2.2.1, x.2.2.2.2.2.2.2.2.1, ()))
   else
    if 0 ≤ (4:Int) then (
    if (4:Int) ≤ ((((x.2.2.2.2.2.2.2.2.2.1 - 1) - 1) : Nat) : Int) then (
    if 0 ≤ (4:Int) then (
    if (4:Int) ≤ ((((x.2.2.2.2.2.2.2.2.2.1 - 1) - 1) : Nat) : Int) then (
    (d7 ((List.take 4 (List.drop 3 x.2.2.2.2.2.2.2.2.2.2.2.2.2.2.1)), ())).bind fun r5 => (
    if ((((((x.2.2.2.2.2.2.2.2.2.1 - 1) - 1) - 4) : Nat) : Int) < (4:Int)) then
     ke (.inl ((List.getD (List.set [0] 0 (8:Int)) 0 0), x.1, (List.set x.2.1 0 (IntKind.i64.wrap r3.1)), (List.set x.2.2.1 0 (IntKind.i64.wrap r4.1)), (List.set x.2.2.2.1 0 (IntKind.u32.wrap r5.1)), x.2.2.2.2.1, x.2.2.2.2.2.1, x.2.2.2.2.2.2.1, x.2.2.2.2.2.2.2.1, x.2.2.2.2.2.2.2.2.1, ()))
    else
     if 0 ≤ (4:Int) then (
     if (4:Int) ≤ (((((x.2.2.2.2.2.2.2.2.2.1 - 1) - 1) - 4) : Nat) : Int) then (
     if 0 ≤ (4:Int) then (
     if (4:Int) ≤ (((((x.2.2.2.2.2.2.2.2.2.1 - 1) - 1) - 4) : Nat) : Int) then (
     (d7 ((List.take 4 (List.drop 7 x.2.2.2.2.2.2.2.2.2.2.2.2.2.2.1)), ())).bind fun r6 => (
     if (((((((x.2.2.2.2.2.2.2.2.2.1 - 1) - 1) - 4) - 4) : Nat) : Int) < (8:Int)) then
      ke (.inl ((List.getD (List.set [0] 0 (8:Int)) 0 0), x.1, (List.set x.2.1 0 (IntKind.i64.wrap r3.1)), (List.set x.2.2.1 0 (IntKind.i64.wrap r4.1)), (List.set x.2.2.2.1 0 (IntKind.u32.wrap r5.1)), (List.set x.2.2.2.2.1 0 (IntKind.u32.wrap r6.1)), x.2.2.2.2.2.1, x.2.2.2.2.2.2.1, x.2.2.2.2.2.2.2.1, x.2.2.2.2.2.2.2.2.1, ()))
     else
      if 0 ≤ (8:Int) then (
      if (8:Int) ≤ ((((((x.2.2.2.2.2.2.2.2.2.1 - 1) - 1) - 4) - 4) : Nat) : Int) then (
      if 0 ≤ (8:Int) then (
      if (8:Int) ≤ ((((((x.2.2.2.2.2.2.2.2.2.1 - 1) - 1) - 4) - 4) : Nat) : Int) then (
      (d7 ((List.take 8 (List.drop 11 x.2.2.2.2.2.2.2.2.2.2.2.2.2.2.1)), ())).bind fun r7 => (
      if ((((((((x.2.2.2.2.2.2.2.2.2.1 - 1) - 1) - 4) - 4) - 8) : Nat) : Int) < (8:Int)) then
       ke (.inl ((List.getD (List.set [0] 0 (8:Int)) 0 0), x.1, (List.set x.2.1 0 (IntKind.i64.wrap r3.1)), (List.set x.2.2.1 0 (IntKind.i64.wrap r4.1)), (List.set x.2.2.2.1 0 (IntKind.u32.wrap r5.1)), (List.set x.2.2.2.2.1 0 (IntKind.u32.wrap r6.1)), (List.set x.2.2.2.2.2.1 0 r7.1), x.2.2.2.2.2.2.1, x.2.2.2.2.2.2.2.1, x.2.2.2.2.2.2.2.2.1, ()))
      else
       if 0 ≤ (8:Int) then (
       if (8:Int) ≤ (((((((x.2.2.2.2.2.2.2.2.2.1 - 1) - 1) - 4) - 4) - 8) : Nat) : Int) then (
       if 0 ≤ (8:Int) then (
       if (8:Int) ≤ (((((((x.2.2.2.2.2.2.2.2.2.1 - 1) - 1) - 4) - 4) - 8) : Nat) : Int) then (
       (d7 ((List.take 8 (List.drop 19 x.2.2.2.2.2.2.2.2.2.2.2.2.2.2.1)), ())).bind fun r8 => (
       if (((((((((x.2.2.2.2.2.2.2.2.2.1 - 1) - 1) - 4) - 4) - 8) - 8) : Nat) : Int) < (2:Int)) then
        ke (.inl ((List.getD (List.set [0] 0 (8:Int)) 0 0), x.1, (List.set x.2.1 0 (IntKind.i64.wrap r3.1)), (List.set x.2.2.1 0 (IntKind.i64.wrap r4.1)), (List.set x.2.2.2.1 0 (IntKind.u32.wrap r5.1)), (List.set x.2.2.2.2.1 0 (IntKind.u32.wrap r6.1)), (List.set (List.set x.2.2.2.2.2.1 0 r7.1) 1 r8.1), x.2.2.2.2.2.2.1, x.2.2.2.2.2.2.2.1, x.2.2.2.2.2.2.2.2.1, ()))
       else
        if 0 ≤ (2:Int) then (
        if (2:Int) ≤ ((((((((x.2.2.2.2.2.2.2.2.2.1 - 1) - 1) - 4) - 4) - 8) - 8) : Nat) : Int) then (
        if 0 ≤ (2:Int) then (
        if (2:Int) ≤ ((((((((x.2.2.2.2.2.2.2.2.2.1 - 1) - 1) - 4) - 4) - 8) - 8) : Nat) : Int) then (
        (d7 ((List.take 2 (List.drop 27 x.2.2.2.2.2.2.2.2.2.2.2.2.2.2.1)), ())).bind fun r9 => (
        if (r9.1 > (IntKind.u64.wrap x.2.2.2.2.2.2.2.2.2.2.2.1)) then
         ke (.inl ((List.getD (List.set [0] 0 (3:Int)) 0 0), x.1, (List.set x.2.1 0 (IntKind.i64.wrap r3.1)), (List.set x.2.2.1 0 (IntKind.i64.wrap r4.1)), (List.set x.2.2.2.1 0 (IntKind.u32.wrap r5.1)), (List.set x.2.2.2.2.1 0 (IntKind.u32.wrap r6.1)), (List.set (List.set x.2.2.2.2.2.1 0 r7.1) 1 r8.1), x.2.2.2.2.2.2.1, x.2.2.2.2.2.2.2.1, x.2.2.2.2.2.2.2.2.1, ()))
        else
         if r9.1 = r9.1 then (
         if (IntKind.i64.wrap r9.1) = (IntKind.i64.wrap r9.1) then (
         if ((((((((((x.2.2.2.2.2.2.2.2.2.1 - 1) - 1) - 4) - 4) - 8) - 8) - 2) : Nat) : Int) < (IntKind.i64.wrap r9.1)) then
          ke (.inl ((List.getD (List.set [0] 0 (8:Int)) 0 0), x.1, (List.set x.2.1 0 (IntKind.i64.wrap r3.1)), (List.set x.2.2.1 0 (IntKind.i64.wrap r4.1)), (List.set x.2.2.2.1 0 (IntKind.u32.wrap r5.1)), (List.set x.2.2.2.2.1 0 (IntKind.u32.wrap r6.1)), (List.set (List.set x.2.2.2.2.2.1 0 r7.1) 1 r8.1), x.2.2.2.2.2.2.1, x.2.2.2.2.2.2.2.1, x.2.2.2.2.2.2.2.2.1, ()))
         else
          if 0 ≤ (IntKind.i64.wrap r9.1) then (
          if (IntKind.i64.wrap r9.1) ≤ (((((((((x.2.2.2.2.2.2.2.2.2.1 - 1) - 1) - 4) - 4) - 8) - 8) - 2) : Nat) : Int) then (
          if 0 ≤ (IntKind.i64.wrap r9.1) then (
          if (IntKind.i64.wrap r9.1) ≤ (((((((((x.2.2.2.2.2.2.2.2.2.1 - 1) - 1) - 4) - 4) - 8) - 8) - 2) : Nat) : Int) then (
          if r9.1 = r9.1 then (
          if (IntKind.i64.wrap r9.1) = (IntKind.i64.wrap r9.1) then (
          (i4 ((List.take ((IntKind.i64.wrap r9.1).toNat) (List.drop 29 x.2.2.2.2.2.2.2.2.2.2.2.2.2.2.1)), ())).bind fun r10 => (
          if r9.1 = r9.1 then (
          if (IntKind.i64.wrap r9.1) = (IntKind.i64.wrap r9.1) then (
          if ((((a2G (((((((x.2.2.2.2.2.2.2.2.2.1 - 1) - 1) - 4) - 4) - 8) - 8) - 2) ((IntKind.i64.wrap r9.1).toNat)) : Nat) : Int) < (2:Int)) then
           ke (.inr (.inl ((List.getD (List.set [0] 0 (8:Int)) 0 0), x.1, (List.set x.2.1 0 (IntKind.i64.wrap r3.1)), (List.set x.2.2.1 0 (IntKind.i64.wrap r4.1)), (List.set x.2.2.2.1 0 (IntKind.u32.wrap r5.1)), (List.set x.2.2.2.2.1 0 (IntKind.u32.wrap r6.1)), (List.set (List.set x.2.2.2.2.2.1 0 r7.1) 1 r8.1), x.2.2.2.2.2.2.1, x.2.2.2.2.2.2.2.1, (List.length r10), x.2.2.2.2.2.2.2.2.1, (List.length r10), r10, ())))
          else
           if 0 ≤ (2:Int) then (
           if (2:Int) ≤ (((a2G (((((((x.2.2.2.2.2.2.2.2.2.1 - 1) - 1) - 4) - 4) - 8) - 8) - 2) ((IntKind.i64.wrap r9.1).toNat)) : Nat) : Int) then (
           if 0 ≤ (2:Int) then (
           if (2:Int) ≤ (((a2G (((((((x.2.2.2.2.2.2.2.2.2.1 - 1) - 1) - 4) - 4) - 8) - 8) - 2) ((IntKind.i64.wrap r9.1).toNat)) : Nat) : Int) then (
           (d7 ((List.take 2 (List.drop (a7y (29 + ((IntKind.i64.wrap r9.1).toNat)) 0) x.2.2.2.2.2.2.2.2.2.2.2.2.2.2.1)), ())).bind fun r11 => (
           if (r11.1 > (IntKind.u64.wrap x.2.2.2.2.2.2.2.2.2.2.2.2.1)) then
            ke (.inr (.inl ((List.getD (List.set [0] 0 (3:Int)) 0 0), x.1, (List.set x.2.1 0 (IntKind.i64.wrap r3.1)), (List.set x.2.2.1 0 (IntKind.i64.wrap r4.1)), (List.set x.2.2.2.1 0 (IntKind.u32.wrap r5.1)), (List.set x.2.2.2.2.1 0 (IntKind.u32.wrap r6.1)), (List.set (List.set x.2.2.2.2.2.1 0 r7.1) 1 r8.1), x.2.2.2.2.2.2.1, x.2.2.2.2.2.2.2.1, (List.length r10), x.2.2.2.2.2.2.2.2.1, (List.length r10), r10, ())))
           else
            if r11.1 = r11.1 then (
            if (IntKind.i64.wrap r11.1) = (IntKind.i64.wrap r11.1) then (
            if (((((a2G (((((((x.2.2.2.2.2.2.2.2.2.1 - 1) - 1) - 4) - 4) - 8) - 8) - 2) ((IntKind.i64.wrap r9.1).toNat)) - 2) : Nat) : Int) < (IntKind.i64.wrap r11.1)) then
             ke (.inr (.inl ((List.getD (List.set [0] 0 (8:Int)) 0 0), x.1, (List.set x.2.1 0 (IntKind.i64.wrap r3.1)), (List.set x.2.2.1 0 (IntKind.i64.wrap r4.1)), (List.set x.2.2.2.1 0 (IntKind.u32.wrap r5.1)), (List.set x.2.2.2.2.1 0 (IntKind.u32.wrap r6.1)), (List.set (List.set x.2.2.2.2.2.1 0 r7.1) 1 r8.1), x.2.2.2.2.2.2.1, x.2.2.2.2.2.2.2.1, (List.length r10), x.2.2.2.2.2.2.2.2.1, (List.length r10), r10, ())))
            else
             if 0 ≤ (IntKind.i64.wrap r11.1) then (
             if (IntKind.i64.wrap r11.1) ≤ ((((a2G (((((((x.2.2.2.2.2.2.2.2.2.1 - 1) - 1) - 4) - 4) - 8) - 8) - 2) ((IntKind.i64.wrap r9.1).toNat)) - 2) : Nat) : Int) then (
             if 0 ≤ (IntKind.i64.wrap r11.1) then (
             if (IntKind.i64.wrap r11.1) ≤ ((((a2G (((((((x.2.2.2.2.2.2.2.2.2.1 - 1) - 1) - 4) - 4) - 8) - 8) - 2) ((IntKind.i64.wrap r9.1).toNat)) - 2) : Nat) : Int) then (
             if r11.1 = r11.1 then (
             if (IntKind.i64.wrap r11.1) = (IntKind.i64.wrap r11.1) then (
             (i4 ((List.take ((IntKind.i64.wrap r11.1).toNat) (List.drop (a7y (a7y (29 + ((IntKind.i64.wrap r9.1).toNat)) 2) 0) x.2.2.2.2.2.2.2.2.2.2.2.2.2.2.1)), ())).bind fun r12 => (
             if r11.1 = r11.1 then (
             if (IntKind.i64.wrap r11.1) = (IntKind.i64.wrap r11.1) then (
             ke (.inr (.inr (x.1, (List.set x.2.1 0 (IntKind.i64.wrap r3.1)), (List.set x.2.2.1 0 (IntKind.i64.wrap r4.1)), (List.set x.2.2.2.1 0 (IntKind.u32.wrap r5.1)), (List.set x.2.2.2.2.1 0 (IntKind.u32.wrap r6.1)), (List.set (List.set x.2.2.2.2.2.1 0 r7.1) 1 r8.1), x.2.2.2.2.2.2.1, x.2.2.2.2.2.2.2.1, (List.length r10), (List.length r12), x.2.2.2.2.2.2.2.2.1, (a7y (a7y (29 + ((IntKind.i64.wrap r9.1).toNat)) 2) ((IntKind.i64.wrap r11.1).toNat)), (a2G ((a2G (((((((x.2.2.2.2.2.2.2.2.2.1 - 1) - 1) - 4) - 4) - 8) - 8) - 2) ((IntKind.i64.wrap r9.1).toNat)) - 2) ((IntKind.i64.wrap r11.1).toNat)), (a2G ((a2G (((((((x.2.2.2.2.2.2.2.2.2.2.1 - 1) - 1) - 4) - 4) - 8) - 8) - 2) ((IntKind.i64.wrap r9.1).toNat)) - 2) ((IntKind.i64.wrap r11.1).toNat)), (List.length r10), r10, (List.length r12), r12, x.2.2.2.2.2.2.2.2.2.2.2.2.2.1, x.2.2.2.2.2.2.2.2.2.2.2.2.2.2.1, ())))) else none) else none)) else none) else none) else none) else none) else none) else none) else none) else none)) else none) else none) else none) else none) else none) else none)) else none) else none) else none) else none) else none) else none) else none) else none)) else none) else none) else none) else none)) else none) else none) else none) else none)) else none) else none) else none) else none)) else none) else none) else none) else none)) else none) else none) else none) else none)) else none) else none) else none) else none)) else none) else none) else none) else none
noncomputable def a3l : Go' W14 := fun y K => match y with
 | .inl y => K (.pan (.ifg 64 .i64) y.1) (fSt { tmps := V :: V :: .sc (.ptr 0 0 false) :: .sc (.ptr 1 0 false) :: pv 44 [], mem := [.live [.xs b64 (some 1), .xs b64 (some 1), .xs b64 (some 1), .xs (.int .u32) (some 1), .xs (.int .u32) (some 1), .xs (.int .u64) (some 2), .xs b64 (some 1), .xs b64 (some 1), .one (.nilsl), .one (.nilsl), .one (.nilsl)] (.own), .live [.xs b64 (some 1)] (.own)], dfr := [(55, [.ptr 0 0 false, .ptr 1 0 false])] } [.xs, .xs, .xs, .xs, .xs, .xs, .xs, .xs, .xs] y.2)
 | .inr (.inl y) => K (.pan (.ifg 64 .i64) y.1) (fSt { tmps := V :: V :: .sc (.ptr 0 0 false) :: .sc (.ptr 1 0 false) :: pv 44 [], mem := [.live [.xs b64 (some 1), .xs b64 (some 1), .xs b64 (some 1), .xs (.int .u32) (some 1), .xs (.int .u32) (some 1), .xs (.int .u64) (some 2), .xs b64 (some 1), .xs b64 (some 1), .one (.vec 2 none 1), .one (.nilsl), .one (.nilsl)] (.own), .live [.xs b64 (some 1)] (.own), .live [.xs b8 none] (.own)], dfr := [(55, [.ptr 0 0 false, .ptr 1 0 false])] } [.xs, .xs, .xs, .xs, .xs, .xs, .xs, .xs, .nat, .xs, .nat, .xs] y.2)
 | .inr (.inr y) => K .normal (fSt { tmps := V :: V :: .sc (.ptr 0 0 false) :: .sc (.ptr 1 0 false) :: .sc (.ptr 2 0 false) :: pv 43 [], mem := [.live [.xs b64 (some 1), .xs b64 (some 1), .xs b64 (some 1), .xs (.int .u32) (some 1), .xs (.int .u32) (some 1), .xs (.int .u64) (some 2), .xs b64 (some 1), .xs b64 (some 1), .one (.vec 3 none 1), .one (.vec 4 none 1), .one (.nilsl)] (.own), .live [.xs b64 (some 1)] (.own), .live [.one (.sl 5 none none none 1)] (.own), .live [.xs b8 none] (.own), .live [.xs b8 none] (.own), .live [.xs b8 none] (.ro)], dfr := [(55, [.ptr 0 0 false, .ptr 1 0 false])] } [.xs, .xs, .xs, .xs, .xs, .xs, .xs, .xs, .nat, .nat, .xs, .nat, .nat, .nat, .nat, .xs, .nat, .xs, .nat, .xs] y)
theorem b0f (N : Nat) : EntryOk p_msg_Get_E o0 N (F5 a0K (N9 N) a3l) (.seq (H4 8000007 d8) (z0 8000007 d8)) :=
 a8b (body := d8) (k := 7) (OkAll.nil) (by kernel_rfl) (fun x => by kernel_rfl) (fun β x K => by kernel_rfl)
noncomputable def U2 : Shape := mkS { tmps := V :: V :: .sc (.ptr 0 0 false) :: .sc (.ptr 1 0 false) :: .sc (.ptr 2 0 false) :: pv 43 [], mem := [.live [.xs b64 (some 1), .xs b64 (some 1), .xs b64 (some 1), .xs (.int .u32) (some 1), .xs (.int .u32) (some 1), .xs (.int .u64) (some 2), .xs b64 (some 1), .xs b64 (some 1), .one (.vec 3 none 1), .one (.vec 4 none 1), .one (.nilsl)] (.own), .live [.xs b64 (some 1)] (.own), .live [.one (.sl 5 none none none 1)] (.own), .live [.xs b8 none] (.own), .live [.xs b8 none] (.own), .live [.xs b8 none] (.ro)], dfr := [(55, [.ptr 0 0 false, .ptr 1 0 false])] } [.xs, .xs, .xs, .xs, .xs, .xs, .xs, .xs, .nat, .nat, .xs, .nat, .nat, .nat, .nat, .xs, .nat, .xs, .nat, .xs]
abbrev W15 : Type := List Int × List Int × List Int × List Int × List Int × List Int × List Int × List Int × Nat × Nat × List Int × Nat × Nat × Nat × Nat × List Int × Nat × List Int × Nat × List Int × Unit
abbrev W16 : Type := (Int × List Int × List Int × List Int × List Int × List Int × List Int × List Int × List Int × Nat × Nat × List Int × Nat × List Int × Nat × List Int × Unit) ⊕ (List Int × List Int × List Int × List Int × List Int × List Int × List Int × List Int × Nat × Nat × List Int × Nat × List Int × Nat × List Int × Unit)
noncomputable def K6 (N : Nat) (β : Type) (x : W15) (ke : W16 → Option β) : Option β :=
 if (((x.2.2.2.2.2.2.2.2.2.2.2.2.1 : Nat) : Int) > (0:Int)) then
  ke (.inl ((List.getD (List.set [0] 0 (212:Int)) 0 0), x.1, x.2.1, x.2.2.1, x.2.2.2.1, x.2.2.2.2.1, x.2.2.2.2.2.1, x.2.2.2.2.2.2.1, x.2.2.2.2.2.2.2.1, x.2.2.2.2.2.2.2.2.1, x.2.2.2.2.2.2.2.2.2.1, x.2.2.2.2.2.2.2.2.2.2.1, x.2.2.2.2.2.2.2.2.2.2.2.2.2.2.1, x.2.2.2.2.2.2.2.2.2.2.2.2.2.2.2.1, x.2.2.2.2.2.2.2.2.2.2.2.2.2.2.2.2.1, x.2.2.2.2.2.2.2.2.2.2.2.2.2.2.2.2.2.1, ()))
 else
  (y9 (((List.getD x.1 0 0), (List.getD x.2.1 0 0), (List.getD x.2.2.1 0 0), (List.getD x.2.2.2.1 0 0), (List.getD x.2.2.2.2.1 0 0), (List.getD (List.take 1 x.2.2.2.2.2.1) 0 0), (List.getD (List.drop 1 x.2.2.2.2.2.1) 0 0), (List.getD x.2.2.2.2.2.2.1 0 0), (List.getD x.2.2.2.2.2.2.2.1 0 0), x.2.2.2.2.2.2.2.2.2.2.2.2.2.2.2.1, x.2.2.2.2.2.2.2.2.2.2.2.2.2.2.2.2.2.1, [], ()), ())).bind fun r16 => (
  if (r16 ≠ (0:Int)) then
   ke (.inl ((List.getD (List.set [0] 0 r16) 0 0), x.1, x.2.1, x.2.2.1, x.2.2.2.1, x.2.2.2.2.1, x.2.2.2.2.2.1, x.2.2.2.2.2.2.1, x.2.2.2.2.2.2.2.1, x.2.2.2.2.2.2.2.2.1, x.2.2.2.2.2.2.2.2.2.1, x.2.2.2.2.2.2.2.2.2.2.1, x.2.2.2.2.2.2.2.2.2.2.2.2.2.2.1, x.2.2.2.2.2.2.2.2.2.2.2.2.2.2.2.1, x.2.2.2.2.2.2.2.2.2.2.2.2.2.2.2.2.1, x.2.2.2.2.2.2.2.2.2.2.2.2.2.2.2.2.2.1, ()))
  else
   ke (.inr (x.1, x.2.1, x.2.2.1, x.2.2.2.1, x.2.2.2.2.1, x.2.2.2.2.2.1, x.2.2.2.2.2.2.1, x.2.2.2.2.2.2.2.1, x.2.2.2.2.2.2.2.2.1, x.2.2.2.2.2.2.2.2.2.1, (List.set x.2.2.2.2.2.2.2.2.2.2.1 0 (0:Int)), x.2.2.2.2.2.2.2.2.2.2.2.2.2.2.1, x.2.2.2.2.2.2.2.2.2.2.2.2.2.2.2.1, x.2.2.2.2.2.2.2.2.2.2.2.2.2.2.2.2.1, x.2.2.2.2.2.2.2.2.2.2.2.2.2.2.2.2.2.1, ())))
noncomputable def a2v : Go' W16 := fun y K => match y with
 | .inl y => K (.pan (.ifg 64 .i64) y.1) (fSt { tmps := V :: V :: .sc (.ptr 0 0 false) :: .sc (.ptr 1 0 false) :: pv 44 [], mem := [.live [.xs b64 (some 1), .xs b64 (some 1), .xs b64 (some 1), .xs (.int .u32) (some 1), .xs (.int .u32) (some 1), .xs (.int .u64) (some 2), .xs b64 (some 1), .xs b64 (some 1), .one (.vec 2 none 1), .one (.vec 3 none 1), .one (.nilsl)] (.own), .live [.xs b64 (some 1)] (.own), .live [.xs b8 none] (.own), .live [.xs b8 none] (.own)], dfr := [(55, [.ptr 0 0 false, .ptr 1 0 false])] } [.xs, .xs, .xs, .xs, .xs, .xs, .xs, .xs, .nat, .nat, .xs, .nat, .xs, .nat, .xs] y.2)
 | .inr y => K .ret (fSt { tmps := V :: V :: .sc (.ptr 0 0 false) :: .sc (.ptr 1 0 false) :: pv 44 [], mem := [.live [.xs b64 (some 1), .xs b64 (some 1), .xs b64 (some 1), .xs (.int .u32) (some 1), .xs (.int .u32) (some 1), .xs (.int .u64) (some 2), .xs b64 (some 1), .xs b64 (some 1), .one (.vec 2 none 1), .one (.vec 3 none 1), .one (.nilsl)] (.own), .live [.xs b64 (some 1)] (.own), .live [.xs b8 none] (.own), .live [.xs b8 none] (.own)], dfr := [(55, [.ptr 0 0 false, .ptr 1 0 false])] } [.xs, .xs, .xs, .xs, .xs, .xs, .xs, .xs, .nat, .nat, .xs, .nat, .xs, .nat, .xs] y)
theorem a9c (N : Nat) : EntryOk p_msg_Get_E o0 N (F5 U2 (K6 N) a2v) (.seq (H4 8000011 d8) (z0 8000011 d8)) :=
 a8b (body := d8) (k := 11) (OkAll.nil) (by kernel_rfl) (fun x => by kernel_rfl) (fun β x K => by kernel_rfl)
noncomputable def Q7 : Shape where
 h := { tmps := [V, V, .sc (.ptr 0 0 false), .sc (.ptr 1 0 false), .sc (.ptr 2 0 false), V, V, V, V, V, V, V, V, V, V, V, V, V, V, V, V, V, .sc (.vec 3 (some 8) 1), .sc (.lit .i64 (8)), .sc (.lit .i64 (0)), V, V, V, V, V, V, V, V, V, V, V, V, V, V, V, V, V, V, V, V, V, V, V], mem := [.live [.xs b64 (some 1), .xs b64 (some 1), .xs b64 (some 1), .xs (.int .u32) (some 1), .xs (.int .u32) (some 1), .xs (.int .u64) (some 2), .xs b64 (some 1), .xs b64 (some 1), .one (.nilsl), .one (.nilsl), .one (.nilsl)] (.own), .live [.xs b64 (some 1)] (.own), .live [.one (.sl 4 (some 1) none none 1)] (.own), .live [.one (.ifp 95 0 1), .one (.ifp 95 0 2), .one (.ifp 98 0 3), .one (.ifp 98 0 4), .one (.ifp 101 0 5), .one (.ifp 101 0 6), .one (.ifq 81 0 10 .i64), .one (.ifq 81 0 11 .i64)] (.own), .live [.xs b8 none] (.ro)], dfr := [(55, [.ptr 0 0 false, .ptr 1 0 false])] }
 ks := [.xs, .xs, .xs, .xs, .xs, .xs, .xs, .xs, .xs, .nat, .nat, .int, .int, .nat, .xs]
 st := fun x => { tmps := [U, U, .one (.sc (.ptr 0 0 none)), .one (.sc (.ptr 1 0 none)), .one (.sc (.ptr 2 0 none)), U, U, U, U, U, U, U, U, U, U, U, U, U, U, U, U, U, .one (.sc (.vec 3 8 1)), .one (.sc (.int .i64 (8:Int))), .one (.sc (.int .i64 (0:Int))), U, U, U, U, U, U, U, U, U, U, U, U, U, U, U, U, U, U, U, U, U, U, U], mem := [.live { segs := [.xs b64 1 x.1, .xs b64 1 x.2.1, .xs b64 1 x.2.2.1, .xs (.int .u32) 1 x.2.2.2.1, .xs (.int .u32) 1 x.2.2.2.2.1, .xs (.int .u64) 2 x.2.2.2.2.2.1, .xs b64 1 x.2.2.2.2.2.2.1, .xs b64 1 x.2.2.2.2.2.2.2.1, .one (.nilsl), .one (.nilsl), .one (.nilsl)], own := .own }, .live { segs := [.xs b64 1 x.2.2.2.2.2.2.2.2.1], own := .own }, .live { segs := [.one (.sl 4 1 x.2.2.2.2.2.2.2.2.2.1 x.2.2.2.2.2.2.2.2.2.2.1 1)], own := .own }, .live { segs := [.one (.ifp 95 0 1), .one (.ifp 95 0 2), .one (.ifp 98 0 3), .one (.ifp 98 0 4), .one (.ifp 101 0 5), .one (.ifp 101 0 6), .one (.ifq 81 0 10 .i64 x.2.2.2.2.2.2.2.2.2.2.2.1), .one (.ifq 81 0 11 .i64 x.2.2.2.2.2.2.2.2.2.2.2.2.1)], own := .own }, .live { segs := [.xs b8 x.2.2.2.2.2.2.2.2.2.2.2.2.2.1 x.2.2.2.2.2.2.2.2.2.2.2.2.2.2.1], own := .ro }], dfr := [(55, [.ptr 0 0 none, .ptr 1 0 none])] }
noncomputable def H6 (N : Nat) (β : Type) (x : W13) (ke : W14 → Option β) : Option β :=
 if (((x.2.2.2.2.2.2.2.2.2.1 : Nat) : Int) < (1:Int)) then
  ke (.inl ((List.getD (List.set [0] 0 (8:Int)) 0 0), x.1, x.2.1, x.2.2.1, x.2.2.2.1, x.2.2.2.2.1, x.2.2.2.2.2.1, x.2.2.2.2.2.2.1, x.2.2.2.2.2.2.2.1, x.2.2.2.2.2.2.2.2.1, ()))
 else
  if 0 ≤ (1:Int) then (
  if (1:Int) ≤ ((x.2.2.2.2.2.2.2.2.2.1 : Nat) : Int) then (
  if 0 ≤ (1:Int) then (
  if (1:Int) ≤ ((x.2.2.2.2.2.2.2.2.2.1 : Nat) : Int) then (
  (d7 ((List.take 1 (List.drop 1 x.2.2.2.2.2.2.2.2.2.2.2.2.2.2.1)), ())).bind fun r19 => (
  if ((((x.2.2.2.2.2.2.2.2.2.1 - 1) : Nat) : Int) < (1:Int)) then
   ke (.inl ((List.getD (List.set [0] 0 (8:Int)) 0 0), x.1, (List.set x.2.1 0 (IntKind.i64.wrap r19.1)), x.2.2.1, x.2.2.2.1, x.2.2.2.2.1, x.2.2.2.2.2.1, x.2.2.2.2.2.2.1, x.2.2.2.2.2.2.2.1, x.2.2.2.2.2.2.2.2.1, ()))
  else
   if 0 ≤ (1:Int) then (
   if (1:Int) ≤ (((x.2.2.2.2.2.2.2.2.2.1 - 1) : Nat) : Int) then (
   if 0 ≤ (1:Int) then (
   if (1:Int) ≤ (((x.2.2.2.2.2.2.2.2.2.1 - 1) : Nat) : Int) then (
   (d7 ((List.take 1 (List.drop 2 x.2.2.2.2.2.2.2.2.2.2.2.2.2.2.1)), ())).bind fun r20 => (
   if (((((x.2.2.2.2.2.2.2.2.2.1 - 1) - 1) : Nat) : Int) < (4:Int)) then
    ke (.inl ((List.getD (List.set [0] 0 (8:Int)) 0 0), x.1, (List.set x.2.1 0 (IntKind.i64.wrap r19.1)), (List.set x.2.2.1 0 (IntKind.i64.wrap r20.1)), x.2.2.2.1, x.2.2.2.2.1, x.2.2.2.2.2.1, x.2.2.2.2.2.2.1, x.2.2.2.2.2.2.2.1, x.2.2.2.2.2.2.2.2.1, ()))
   else
    if 0 ≤ (4:Int) then (
    if (4:Int) ≤ ((((x.2.2.2.2.2.2.2.2.2.1 - 1) - 1) : Nat) : Int) then (
    if 0 ≤ (4:Int) then (
    if (4:Int) ≤ ((((x.2.2.2.2.2.2.2.2.2.1 - 1) - 1) : Nat) : Int) then (
    (d7 ((List.take 4 (List.drop 3 x.2.2.2.2.2.2.2.2.2.2.2.2.2.2.1)), ())).bind fun r21 => (
    if ((((((x.2.2.2.2.2.2.2.2.2.1 - 1) - 1) - 4) : Nat) : Int) < (4:Int)) then
     ke (.inl ((List.getD (List.set [0] 0 (8:Int)) 0 0), x.1, (List.set x.2.1 0 (IntKind.i64.wrap r19.1)), (List.set x.2.2.1 0 (IntKind.i64.wrap r20.1)), (List.set x.2.2.2.1 0 (IntKind.u32.wrap r21.1)), x.2.2.2.2.1, x.2.2.2.2.2.1, x.2.2.2.2.2.2.1, x.2.2.2.2.2.2.2.1, x.2.2.2.2.2.2.2.2.1, ()))
    else
     if 0 ≤ (4:Int) then (
     if (4:Int) ≤ (((((x.2.2.2.2.2.2.2.2.2.1 - 1) - 1) - 4) : Nat) : Int) then (
     if 0 ≤ (4:Int) then (
     if (4:Int) ≤ (((((x.2.2.2.2.2.2.2.2.2.1 - 1) - 1) - 4) : Nat) : Int) then (
     (d7 ((List.take 4 (List.drop 7 x.2.2.2.2.2.2.2.2.2.2.2.2.2.2.1)), ())).bind fun r22 => (
     if (((((((x.2.2.2.2.2.2.2.2.2.1 - 1) - 1) - 4) - 4) : Nat) : Int) < (8:Int)) then
      ke (.inl ((List.getD (List.set [0] 0 (8:Int)) 0 0), x.1, (List.set x.2.1 0 (IntKind.i64.wrap r19.1)), (List.set x.2.2.1 0 (IntKind.i64.wrap r20.1)), (List.set x.2.2.2.1 0 (IntKind.u32.wrap r21.1)), (List.set x.2.2.2.2.1 0 (IntKind.u32.wrap r22.1)), x.2.2.2.2.2.1, x.2.2.2.2.2.2.1, x.2.2.2.2.2.2.2.1, x.2.2.2.2.2.2.2.2.1, ()))
     else
      if 0 ≤ (8:Int) then (
      if (8:Int) ≤ ((((((x.2.2.2.2.2.2.2.2.2.1 - 1) - 1) - 4) - 4) : Nat) : Int) then (
      if 0 ≤ (8:Int) then (
      if (8:Int) ≤ ((((((x.2.2.2.2.2.2.2.2.2.1 - 1) - 1) - 4) - 4) : Nat) : Int) then (
      (d7 ((List.take 8 (List.drop 11 x.2.2.2.2.2.2.2.2.2.2.2.2.2.2.1)), ())).bind fun r23 => (
      if ((((((((x.2.2.2.2.2.2.2.2.2.1 - 1) - 1) - 4) - 4) - 8) : Nat) : Int) < (8:Int)) then
       ke (.inl ((List.getD (List.set [0] 0 (8:Int)) 0 0), x.1, (List.set x.2.1 0 (IntKind.i64.wrap r19.1)), (List.set x.2.2.1 0 (IntKind.i64.wrap r20.1)), (List.set x.2.2.2.1 0 (IntKind.u32.wrap r21.1)), (List.set x.2.2.2.2.1 0 (IntKind.u32.wrap r22.1)), (List.set x.2.2.2.2.2.1 0 r23.1), x.2.2.2.2.2.2.1, x.2.2.2.2.2.2.2.1, x.2.2.2.2.2.2.2.2.1, ()))
      else
       if 0 ≤ (8:Int) then (
       if (8:Int) ≤ (((((((x.2.2.2.2.2.2.2.2.2.1 - 1) - 1) - 4) - 4) - 8) : Nat) : Int) then (
       if 0 ≤ (8:Int) then (
       if (8:Int) ≤ (((((((x.2.2.2.2.2.2.2.2.2.1 - 1) - 1) - 4) - 4) - 8) : Nat) : Int) then (
       (d7 ((List.take 8 (List.drop 19 x.2.2.2.2.2.2.2.2.2.2.2.2.2.2.1)), ())).bind fun r24 => (
       if (((((((((x.2.2.2.2.2.2.2.2.2.1 - 1) - 1) - 4) - 4) - 8) - 8) : Nat) : Int) < (2:Int)) then
        ke (.inl ((List.getD (List.set [0] 0 (8:Int)) 0 0), x.1, (List.set x.2.1 0 (IntKind.i64.wrap r19.1)), (List.set x.2.2.1 0 (IntKind.i64.wrap r20.1)), (List.set x.2.2.2.1 0 (IntKind.u32.wrap r21.1)), (List.set x.2.2.2.2.1 0 (IntKind.u32.wrap r22.1)), (List.set (List.set x.2.2.2.2.2.1 0 r23.1) 1 r24.1), x.2.2.2.2.2.2.1, x.2.2.2.2.2.2.2.1, x.2.2.2.2.2.2.2.2.1, ()))
       else
        if 0 ≤ (2:Int) then (
        if (2:Int) ≤ ((((((((x.2.2.2.2.2.2.2.2.2.1 - 1) - 1) - 4) - 4) - 8) - 8) : Nat) : Int) then (
        if 0 ≤ (2:Int) then (
        if (2:Int) ≤ ((((((((x.2.2.2.2.2.2.2.2.2.1 - 1) - 1) - 4) - 4) - 8) - 8) : Nat) : Int) then (
        (d7 ((List.take 2 (List.drop 27 x.2.2.2.2.2.2.2.2.2.2.2.2.2.2.1)), ())).bind fun r25 => (
        if (r25.1 > (IntKind.u64.wrap x.2.2.2.2.2.2.2.2.2.2.2.1)) then
         ke (.inl ((List.getD (List.set [0] 0 (3:Int)) 0 0), x.1, (List.set x.2.1 0 (IntKind.i64.wrap r19.1)), (List.set x.2.2.1 0 (IntKind.i64.wrap r20.1)), (List.set x.2.2.2.1 0 (IntKind.u32.wrap r21.1)), (List.set x.2.2.2.2.1 0 (IntKind.u32.wrap r22.1)), (List.set (List.set x.2.2.2.2.2.1 0 r23.1) 1 r24.1), x.2.2.2.2.2.2.1, x.2.2.2.2.2.2.2.1, x.2.2.2.2.2.2.2.2.1, ()))
        else
         if r25.1 = r25.1 then (
         if (IntKind.i64.wrap r25.1) = (IntKind.i64.wrap r25.1) then (
         if ((((((((((x.2.2.2.2.2.2.2.2.2.1 - 1) - 1) - 4) - 4) - 8) - 8) - 2) : Nat) : Int) < (IntKind.i64.wrap r25.1)) then
          ke (.inl ((List.getD (List.set [0] 0 (8:Int)) 0 0), x.1, (List.set x.2.1 0 (IntKind.i64.wrap r19.1)), (List.set x.2.2.1 0 (IntKind.i64.wrap r20.1)), (List.set x.2.2.2.1 0 (IntKind.u32.wrap r21.1)), (List.set x.2.2.2.2.1 0 (IntKind.u32.wrap r22.1)), (List.set (List.set x.2.2.2.2.2.1 0 r23.1) 1 r24.1), x.2.2.2.2.2.2.1, x.2.2.2.2.2.2.2.1, x.2.2.2.2.2.2.2.2.1, ()))
         else
          if 0 ≤ (IntKind.i64.wrap r25.1) then (
          if (IntKind.i64.wrap r25.1) ≤ (((((((((x.2.2.2.2.2.2.2.2.2.1 - 1) - 1) - 4) - 4) - 8) - 8) - 2) : Nat) : Int) then (
          if 0 ≤ (IntKind.i64.wrap r25.1) then (
          if (IntKind.i64.wrap r25.1) ≤ (((((((((x.2.2.2.2.2.2.2.2.2.1 - 1) - 1) - 4) - 4) - 8) - 8) - 2) : Nat) : Int) then (
          if r25.1 = r25.1 then (
          if (IntKind.i64.wrap r25.1) = (IntKind.i64.wrap r25.1) then (
          (i4 ((List.take ((IntKind.i64.wrap r25.1).toNat) (List.drop 29 x.2.2.2.2.2.2.2.2.2.2.2.2.2.2.1)), ())).bind fun r26 => (
          if r25.1 = r25.1 then (
          if (IntKind.i64.wrap r25.1) = (IntKind.i64.wrap r25.1) then (
          if ((((a2G (((((((x.2.2.2.2.2.2.2.2.2.1 - 1) - 1) - 4) - 4) - 8) - 8) - 2) ((IntKind.i64.wrap r25.1).toNat)) : Nat) : Int) < (2:Int)) then
           ke (.inr (.inl ((List.getD (List.set [0] 0 (8:Int)) 0 0), x.1, (List.set x.2.1 0 (IntKind.i64.wrap r19.1)), (List.set x.2.2.1 0 (IntKind.i64.wrap r20.1)), (List.set x.2.2.2.1 0 (IntKind.u32.wrap r21.1)), (List.set x.2.2.2.2.1 0 (IntKind.u32.wrap r22.1)), (List.set (List.set x.2.2.2.2.2.1 0 r23.1) 1 r24.1), x.2.2.2.2.2.2.1, x.2.2.2.2.2.2.2.1, (List.length r26), x.2.2.2.2.2.2.2.2.1, (List.length r26), r26, ())))
          else
           if 0 ≤ (2:Int) then (
           if (2:Int) ≤ (((a2G (((((((x.2.2.2.2.2.2.2.2.2.1 - 1) - 1) - 4) - 4) - 8) - 8) - 2) ((IntKind.i64.wrap r25.1).toNat)) : Nat) : Int) then (
           if 0 ≤ (2:Int) then (
           if (2:Int) ≤ (((a2G (((((((x.2.2.2.2.2.2.2.2.2.1 - 1) - 1) - 4) - 4) - 8) - 8) - 2) ((IntKind.i64.wrap r25.1).toNat)) : Nat) : Int) then (
           (d7 ((List.take 2 (List.drop (a7y (29 + ((IntKind.i64.wrap r25.1).toNat)) 0) x.2.2.2.2.2.2.2.2.2.2.2.2.2.2.1)), ())).bind fun r27 => (
           if (r27.1 > (IntKind.u64.wrap x.2.2.2.2.2.2.2.2.2.2.2.2.1)) then
            ke (.inr (.inl ((List.getD (List.set [0] 0 (3:Int)) 0 0), x.1, (List.set x.2.1 0 (IntKind.i64.wrap r19.1)), (List.set x.2.2.1 0 (IntKind.i64.wrap r20.1)), (List.set x.2.2.2.1 0 (IntKind.u32.wrap r21.1)), (List.set x.2.2.2.2.1 0 (IntKind.u32.wrap r22.1)), (List.set (List.set x.2.2.2.2.2.1 0 r23.1) 1 r24.1), x.2.2.2.2.2.2.1, x.2.2.2.2.2.2.2.1, (List.length r26), x.2.2.2.2.2.2.2.2.1, (List.length r26), r26, ())))
           else
            if r27.1 = r27.1 then (
            if (IntKind.i64.wrap r27.1) = (IntKind.i64.wrap r27.1) then (
            if (((((a2G (((((((x.2.2.2.2.2.2.2.2.2.1 - 1) - 1) - 4) - 4) - 8) - 8) - 2) ((IntKind.i64.wrap r25.1).toNat)) - 2) : Nat) : Int) < (IntKind.i64.wrap r27.1)) then
             ke (.inr (.inl ((List.getD (List.set [0] 0 (8:Int)) 0 0), x.1, (List.set x.2.1 0 (IntKind.i64.wrap r19.1)), (List.set x.2.2.1 0 (IntKind.i64.wrap r20.1)), (List.set x.2.2.2.1 0 (IntKind.u32.wrap r21.1)), (List.set x.2.2.2.2.1 0 (IntKind.u32.wrap r22.1)), (List.set (List.set x.2.2.2.2.2.1 0 r23.1) 1 r24.1), x.2.2.2.2.2.2.1, x.2.2.2.2.2.2.2.1, (List.length r26), x.2.2.2.2.2.2.2.2.1, (List.length r26), r26, ())))
            else
             if 0 ≤ (IntKind.i64.wrap r27.1) then (
             if (IntKind.i64.wrap r27.1) ≤ ((((a2G (((((((x.2.2.2.2.2.2.2.2.2.1 - 1) - 1) - 4) - 4) - 8) - 8) - 2) ((IntKind.i64.wrap r25.1).toNat)) - 2) : Nat) : Int) then (
             if 0 ≤ (IntKind.i64.wrap r27.1) then (
             if (IntKind.i64.wrap r27.1) ≤ ((((a2G (((((((x.2.2.2.2.2.2.2.2.2.1 - 1) - 1) - 4) - 4) - 8) - 8) - 2) ((IntKind.i64.wrap r25.1).toNat)) - 2) : Nat) : Int) then (
             if r27.1 = r27.1 then (
             if (IntKind.i64.wrap r27.1) = (IntKind.i64.wrap r27.1) then (
             (i4 ((List.take ((IntKind.i64.wrap r27.1).toNat) (List.drop (a7y (a7y (29 + ((IntKind.i64.wrap r25.1).toNat)) 2) 0) x.2.2.2.2.2.2.2.2.2.2.2.2.2.2.1)), ())).bind fun r28 => (
             if r27.1 = r27.1 then (
             if (IntKind.i64.wrap r27.1) = (IntKind.i64.wrap r27.1) then (
             ke (.inr (.inr (x.1, (List.set x.2.1 0 (IntKind.i64.wrap r19.1)), (List.set x.2.2.1 0 (IntKind.i64.wrap r20.1)), (List.set x.2.2.2.1 0 (IntKind.u32.wrap r21.1)), (List.set x.2.2.2.2.1 0 (IntKind.u32.wrap r22.1)), (List.set (List.set x.2.2.2.2.2.1 0 r23.1) 1 r24.1), x.2.2.2.2.2.2.1, x.2.2.2.2.2.2.2.1, (List.length r26), (List.length r28), x.2.2.2.2.2.2.2.2.1, (a7y (a7y (29 + ((IntKind.i64.wrap r25.1).toNat)) 2) ((IntKind.i64.wrap r27.1).toNat)), (a2G ((a2G (((((((x.2.2.2.2.2.2.2.2.2.1 - 1) - 1) - 4) - 4) - 8) - 8) - 2) ((IntKind.i64.wrap r25.1).toNat)) - 2) ((IntKind.i64.wrap r27.1).toNat)), (a2G ((a2G (((((((x.2.2.2.2.2.2.2.2.2.2.1 - 1) - 1) - 4) - 4) - 8) - 8) - 2) ((IntKind.i64.wrap r25.1).toNat)) - 2) ((IntKind.i64.wrap r27.1).toNat)), (List.length r26), r26, (List.length r28), r28, x.2.2.2.2.2.2.2.2.2.2.2.2.2.1, x.2.2.2.2.2.2.2.2.2.2.2.2.2.2.1, ())))) else none) else none)) else none) else none) else none) else none) else none) else none) else none) else none)) else none) else none) else none) else none) else none) else none)) else none) else none) else none) else none) else none) else none) else none) else none)) else none) else none) else none) else none)) else none) else none) else none) else none)) else none) else none) else none) else none)) else none) else none) else none) else none)) else none) else none) else none) else none)) else none) else none) else none) else none)) else none) else none) else none) else none
noncomputable def a1j : Go' W14 := fun y K => match y with
 | .inl y => K (.pan (.ifg 64 .i64) y.1) (fSt { tmps := V :: V :: .sc (.ptr 0 0 false) :: .sc (.ptr 1 0 false) :: pv 44 [], mem := [.live [.xs b64 (some 1), .xs b64 (some 1), .xs b64 (some 1), .xs (.int .u32) (some 1), .xs (.int .u32) (some 1), .xs (.int .u64) (some 2), .xs b64 (some 1), .xs b64 (some 1), .one (.nilsl), .one (.nilsl), .one (.nilsl)] (.own), .live [.xs b64 (some 1)] (.own)], dfr := [(55, [.ptr 0 0 false, .ptr 1 0 false])] } [.xs, .xs, .xs, .xs, .xs, .xs, .xs, .xs, .xs] y.2)
 | .inr (.inl y) => K (.pan (.ifg 64 .i64) y.1) (fSt { tmps := V :: V :: .sc (.ptr 0 0 false) :: .sc (.ptr 1 0 false) :: pv 44 [], mem := [.live [.xs b64 (some 1), .xs b64 (some 1), .xs b64 (some 1), .xs (.int .u32) (some 1), .xs (.int .u32) (some 1), .xs (.int .u64) (some 2), .xs b64 (some 1), .xs b64 (some 1), .one (.nilsl), .one (.vec 2 none 1), .one (.nilsl)] (.own), .live [.xs b64 (some 1)] (.own), .live [.xs b8 none] (.own)], dfr := [(55, [.ptr 0 0 false, .ptr 1 0 false])] } [.xs, .xs, .xs, .xs, .xs, .xs, .xs, .xs, .nat, .xs, .nat, .xs] y.2)
 | .inr (.inr y) => K .normal (fSt { tmps := V :: V :: .sc (.ptr 0 0 false) :: .sc (.ptr 1 0 false) :: .sc (.ptr 2 0 false) :: pv 43 [], mem := [.live [.xs b64 (some 1), .xs b64 (some 1), .xs b64 (some 1), .xs (.int .u32) (some 1), .xs (.int .u32) (some 1), .xs (.int .u64) (some 2), .xs b64 (some 1), .xs b64 (some 1), .one (.nilsl), .one (.vec 3 none 1), .one (.vec 4 none 1)] (.own), .live [.xs b64 (some 1)] (.own), .live [.one (.sl 5 none none none 1)] (.own), .live [.xs b8 none] (.own), .live [.xs b8 none] (.own), .live [.xs b8 none] (.ro)], dfr := [(55, [.ptr 0 0 false, .ptr 1 0 false])] } [.xs, .xs, .xs, .xs, .xs, .xs, .xs, .xs, .nat, .nat, .xs, .nat, .nat, .nat, .nat, .xs, .nat, .xs, .nat, .xs] y)
theorem a7M (N : Nat) : EntryOk p_msg_Get_E o0 N (F5 Q7 (H6 N) a1j) (.seq (H4 8000007 d8) (z0 8000007 d8)) :=
 a8b (body := d8) (k := 7) (OkAll.nil) (by kernel_rfl) (fun x => by kernel_rfl) (fun β x K => by kernel_rfl)
noncomputable def M5 : Shape := mkS { tmps := V :: V :: .sc (.ptr 0 0 false) :: .sc (.ptr 1 0 false) :: .sc (.ptr 2 0 false) :: pv 43 [], mem := [.live [.xs b64 (some 1), .xs b64 (some 1), .xs b64 (some 1), .xs (.int .u32) (some 1), .xs (.int .u32) (some 1), .xs (.int .u64) (some 2), .xs b64 (some 1), .xs b64 (some 1), .one (.nilsl), .one (.vec 3 none 1), .one (.vec 4 none 1)] (.own), .live [.xs b64 (some 1)] (.own), .live [.one (.sl 5 none none none 1)] (.own), .live [.xs b8 none] (.own), .live [.xs b8 none] (.own), .live [.xs b8 none] (.ro)], dfr := [(55, [.ptr 0 0 false, .ptr 1 0 false])] } [.xs, .xs, .xs, .xs, .xs, .xs, .xs, .xs, .nat, .nat, .xs, .nat, .nat, .nat, .nat, .xs, .nat, .xs, .nat, .xs]
noncomputable def E4 (N : Nat) (β : Type) (x : W15) (ke : W16 → Option β) : Option β :=
 if (((x.2.2.2.2.2.2.2.2.2.2.2.2.1 : Nat) : Int) > (0:Int)) then
  ke (.inl ((List.getD (List.set [0] 0 (212:Int)) 0 0), x.1, x.2.1, x.2.2.1, x.2.2.2.1, x.2.2.2.2.1, x.2.2.2.2.2.1, x.2.2.2.2.2.2.1, x.2.2.2.2.2.2.2.1, x.2.2.2.2.2.2.2.2.1, x.2.2.2.2.2.2.2.2.2.1, x.2.2.2.2.2.2.2.2.2.2.1, x.2.2.2.2.2.2.2.2.2.2.2.2.2.2.1, x.2.2.2.2.2.2.2.2.2.2.2.2.2.2.2.1, x.2.2.2.2.2.2.2.2.2.2.2.2.2.2.2.2.1, x.2.2.2.2.2.2.2.2.2.2.2.2.2.2.2.2.2.1, ()))
 else
  (y9 (((List.getD x.1 0 0), (List.getD x.2.1 0 0), (List.getD x.2.2.1 0 0), (List.getD x.2.2.2.1 0 0), (List.getD x.2.2.2.2.1 0 0), (List.getD (List.take 1 x.2.2.2.2.2.1) 0 0), (List.getD (List.drop 1 x.2.2.2.2.2.1) 0 0), (List.getD x.2.2.2.2.2.2.1 0 0), (List.getD x.2.2.2.2.2.2.2.1 0 0), [], x.2.2.2.2.2.2.2.2.2.2.2.2.2.2.2.1, x.2.2.2.2.2.2.2.2.2.2.2.2.2.2.2.2.2.1, ()), ())).bind fun r32 => (
  if (r32 ≠ (0:Int)) then
   ke (.inl ((List.getD (List.set [0] 0 r32) 0 0), x.1, x.2.1, x.2.2.1, x.2.2.2.1, x.2.2.2.2.1, x.2.2.2.2.2.1, x.2.2.2.2.2.2.1, x.2.2.2.2.2.2.2.1, x.2.2.2.2.2.2.2.2.1, x.2.2.2.2.2.2.2.2.2.1, x.2.2.2.2.2.2.2.2.2.2.1, x.2.2.2.2.2.2.2.2.2.2.2.2.2.2.1, x.2.2.2.2.2.2.2.2.2.2.2.2.2.2.2.1, x.2.2.2.2.2.2.2.2.2.2.2.2.2.2.2.2.1, x.2.2.2.2.2.2.2.2.2.2.2.2.2.2.2.2.2.1, ()))
  else
   ke (.inr (x.1, x.2.1, x.2.2.1, x.2.2.2.1, x.2.2.2.2.1, x.2.2.2.2.2.1, x.2.2.2.2.2.2.1, x.2.2.2.2.2.2.2.1, x.2.2.2.2.2.2.2.2.1, x.2.2.2.2.2.2.2.2.2.1, (List.set x.2.2.2.2.2.2.2.2.2.2.1 0 (0:Int)), x.2.2.2.2.2.2.2.2.2.2.2.2.2.2.1, x.2.2.2.2.2.2.2.2.2.2.2.2.2.2.2.1, x.2.2.2.2.2.2.2.2.2.2.2.2.2.2.2.2.1, x.2.2.2.2.2.2.2.2.2.2.2.2.2.2.2.2.2.1, ())))
noncomputable def a0k : Go' W16 := fun y K => match y with
 | .inl y => K (.pan (.ifg 64 .i64) y.1) (fSt { tmps := V :: V :: .sc (.ptr 0 0 false) :: .sc (.ptr 1 0 false) :: pv 44 [], mem := [.live [.xs b64 (some 1), .xs b64 (some 1), .xs b64 (some 1), .xs (.int .u32) (some 1), .xs (.int .u32) (some 1), .xs (.int .u64) (some 2), .xs b64 (some 1), .xs b64 (some 1), .one (.nilsl), .one (.vec 2 none 1), .one (.vec 3 none 1)] (.own), .live [.xs b64 (some 1)] (.own), .live [.xs b8 none] (.own), .live [.xs b8 none] (.own)], dfr := [(55, [.ptr 0 0 false, .ptr 1 0 false])] } [.xs, .xs, .xs, .xs, .xs, .xs, .xs, .xs, .nat, .nat, .xs, .nat, .xs, .nat, .xs] y.2)
 | .inr y => K .ret (fSt { tmps := V :: V :: .sc (.ptr 0 0 false) :: .sc (.ptr 1 0 false) :: pv 44 [], mem := [.live [.xs b64 (some 1), .xs b64 (some 1), .xs b64 (some 1), .xs (.int .u32) (some 1), .xs (.int .u32) (some 1), .xs (.int .u64) (some 2), .xs b64 (some 1), .xs b64 (some 1), .one (.nilsl), .one (.vec 2 none 1), .one (.vec 3 none 1)] (.own), .live [.xs b64 (some 1)] (.own), .live [.xs b8 none] (.own), .live [.xs b8 none] (.own)], dfr := [(55, [.ptr 0 0 false, .ptr 1 0 false])] } [.xs, .xs, .xs, .xs, .xs, .xs, .xs, .xs, .nat, .nat, .xs, .nat, .xs, .nat, .xs] y)
theorem a6J (N : Nat) : EntryOk p_msg_Get_E o0 N (F5 M5 (E4 N) a0k) (.seq (H4 8000011 d8) (z0 8000011 d8)) :=
 a8b (body := d8) (k := 11) (OkAll.nil) (by kernel_rfl) (fun x => by kernel_rfl) (fun β x K => by kernel_rfl)
end Go.Ax.TryP
set_option linter.unusedVariables false
namespace Go.Ax.TryP
open Go.Proofs
noncomputable def Q8 : Shape where
 h := { tmps := [V, V, .sc (.ptr 0 0 false), .sc (.ptr 1 0 false), .sc (.ptr 2 0 false), V, V, V, V, V, V, V, V, V, V, V, V, V, V, V, V, V, .sc (.vec 3 (some 6) 1), .sc (.lit .i64 (6)), .sc (.lit .i64 (0)), V, V, V, V, V, V, V, V, V, V, V, V, V, V, V, V, V, V, V, V, V, V, V], mem := [.live [.xs b64 (some 1), .xs b64 (some 1), .xs b64 (some 1), .xs (.int .u32) (some 1), .xs (.int .u32) (some 1), .xs (.int .u64) (some 2), .xs b64 (some 1), .xs b64 (some 1), .one (.nilsl), .one (.nilsl), .one (.nilsl)] (.own), .live [.xs b64 (some 1)] (.own), .live [.one (.sl 4 (some 1) none none 1)] (.own), .live [.one (.ifp 95 0 1), .one (.ifp 95 0 2), .one (.ifp 98 0 3), .one (.ifp 102 0 7), .one (.ifp 102 0 8), .one (.ifq 81 0 9 .i64)] (.own), .live [.xs b8 none] (.ro)], dfr := [(55, [.ptr 0 0 false, .ptr 1 0 false])] }
 ks := [.xs, .xs, .xs, .xs, .xs, .xs, .xs, .xs, .xs, .nat, .nat, .int, .nat, .xs]
 st := fun x => { tmps := [U, U, .one (.sc (.ptr 0 0 none)), .one (.sc (.ptr 1 0 none)), .one (.sc (.ptr 2 0 none)), U, U, U, U, U, U, U, U, U, U, U, U, U, U, U, U, U, .one (.sc (.vec 3 6 1)), .one (.sc (.int .i64 (6:Int))), .one (.sc (.int .i64 (0:Int))), U, U, U, U, U, U, U, U, U, U, U, U, U, U, U, U, U, U, U, U, U, U, U], mem := [.live { segs := [.xs b64 1 x.1, .xs b64 1 x.2.1, .xs b64 1 x.2.2.1, .xs (.int .u32) 1 x.2.2.2.1, .xs (.int .u32) 1 x.2.2.2.2.1, .xs (.int .u64) 2 x.2.2.2.2.2.1, .xs b64 1 x.2.2.2.2.2.2.1, .xs b64 1 x.2.2.2.2.2.2.2.1, .one (.nilsl), .one (.nilsl), .one (.nilsl)], own := .own }, .live { segs := [.xs b64 1 x.2.2.2.2.2.2.2.2.1], own := .own }, .live { segs := [.one (.sl 4 1 x.2.2.2.2.2.2.2.2.2.1 x.2.2.2.2.2.2.2.2.2.2.1 1)], own := .own }, .live { segs := [.one (.ifp 95 0 1), .one (.ifp 95 0 2), .one (.ifp 98 0 3), .one (.ifp 102 0 7), .one (.ifp 102 0 8), .one (.ifq 81 0 9 .i64 x.2.2.2.2.2.2.2.2.2.2.2.1)], own := .own }, .live { segs := [.xs b8 x.2.2.2.2.2.2.2.2.2.2.2.2.1 x.2.2.2.2.2.2.2.2.2.2.2.2.2.1], own := .ro }], dfr := [(55, [.ptr 0 0 none, .ptr 1 0 none])] }
abbrev W17 : Type := List Int × List Int × List Int × List Int × List Int × List Int × List Int × List Int × List Int × Nat × Nat × Int × Nat × List Int × Unit
abbrev W18 : Type := (Int × List Int × List Int × List Int × List Int × List Int × List Int × List Int × List Int × List Int × Unit) ⊕ (List Int × List Int × List Int × List Int × List Int × List Int × List Int × List Int × Nat × List Int × Nat × Nat × Nat × Nat × List Int × Nat × List Int × Unit)
noncomputable def H7 (N : Nat) (β : Type) (x : W17) (ke : W18 → Option β) : Option β :=
 if (((x.2.2.2.2.2.2.2.2.2.1 : Nat) : Int) < (1:Int)) then
  ke (.inl ((List.getD (List.set [0] 0 (8:Int)) 0 0), x.1, x.2.1, x.2.2.1, x.2.2.2.1, x.2.2.2.2.1, x.2.2.2.2.2.1, x.2.2.2.2.2.2.1, x.2.2.2.2.2.2.2.1, x.2.2.2.2.2.2.2.2.1, ()))
 else
  if 0 ≤ (1:Int) then (
  if (1:Int) ≤ ((x.2.2.2.2.2.2.2.2.2.1 : Nat) : Int) then (
  if 0 ≤ (1:Int) then (
  if (1:Int) ≤ ((x.2.2.2.2.2.2.2.2.2.1 : Nat) : Int) then (
  (d7 ((List.take 1 (List.drop 1 x.2.2.2.2.2.2.2.2.2.2.2.2.2.1)), ())).bind fun r35 => (
  if ((((x.2.2.2.2.2.2.2.2.2.1 - 1) : Nat) : Int) < (1:Int)) then
   ke (.inl ((List.getD (List.set [0] 0 (8:Int)) 0 0), x.1, (List.set x.2.1 0 (IntKind.i64.wrap r35.1)), x.2.2.1, x.2.2.2.1, x.2.2.2.2.1, x.2.2.2.2.2.1, x.2.2.2.2.2.2.1, x.2.2.2.2.2.2.2.1, x.2.2.2.2.2.2.2.2.1, ()))
  else
   if 0 ≤ (1:Int) then (
   if (1:Int) ≤ (((x.2.2.2.2.2.2.2.2.2.1 - 1) : Nat) : Int) then (
   if 0 ≤ (1:Int) then (
   if (1:Int) ≤ (((x.2.2.2.2.2.2.2.2.2.1 - 1) : Nat) : Int) then (
   (d7 ((List.take 1 (List.drop 2 x.2.2.2.2.2.2.2.2.2.2.2.2.2.1)), ())).bind fun r36 => (
   if (((((x.2.2.2.2.2.2.2.2.2.1 - 1) - 1) : Nat) : Int) < (4:Int)) then
    ke (.inl ((List.getD (List.set [0] 0 (8:Int)) 0 0), x.1, (List.set x.2.1 0 (IntKind.i64.wrap r35.1)), (List.set x.2.2.1 0 (IntKind.i64.wrap r36.1)), x.2.2.2.1, x.2.2.2.2.1, x.2.2.2.2.2.1, x.2.2.2.2.2.2.1, x.2.2.2.2.2.2.2.1, x.2.2.2.2.2.2.2.2.1, ()))
   else
    if 0 ≤ (4:Int) then (
    if (4:Int) ≤ ((((x.2.2.2.2.2.2.2.2.2.1 - 1) - 1) : Nat) : Int) then (
    if 0 ≤ (4:Int) then (
    if (4:Int) ≤ ((((x.2.2.2.2.2.2.2.2.2.1 - 1) - 1) : Nat) : Int) then (
    (d7 ((List.take 4 (List.drop 3 x.2.2.2.2.2.2.2.2.2.2.2.2.2.1)), ())).bind fun r37 => (
    if ((((((x.2.2.2.2.2.2.2.2.2.1 - 1) - 1) - 4) : Nat) : Int) < (2:Int)) then
     ke (.inl ((List.getD (List.set [0] 0 (8:Int)) 0 0), x.1, (List.set x.2.1 0 (IntKind.i64.wrap r35.1)), (List.set x.2.2.1 0 (IntKind.i64.wrap r36.1)), (List.set x.2.2.2.1 0 (IntKind.u32.wrap r37.1)), x.2.2.2.2.1, x.2.2.2.2.2.1, x.2.2.2.2.2.2.1, x.2.2.2.2.2.2.2.1, x.2.2.2.2.2.2.2.2.1, ()))
    else
     if 0 ≤ (2:Int) then (
     if (2:Int) ≤ (((((x.2.2.2.2.2.2.2.2.2.1 - 1) - 1) - 4) : Nat) : Int) then (
     if 0 ≤ (2:Int) then (
     if (2:Int) ≤ (((((x.2.2.2.2.2.2.2.2.2.1 - 1) - 1) - 4) : Nat) : Int) then (
     (d7 ((List.take 2 (List.drop 7 x.2.2.2.2.2.2.2.2.2.2.2.2.2.1)), ())).bind fun r38 => (
     if (((((((x.2.2.2.2.2.2.2.2.2.1 - 1) - 1) - 4) - 2) : Nat) : Int) < (2:Int)) then
      ke (.inl ((List.getD (List.set [0] 0 (8:Int)) 0 0), x.1, (List.set x.2.1 0 (IntKind.i64.wrap r35.1)), (List.set x.2.2.1 0 (IntKind.i64.wrap r36.1)), (List.set x.2.2.2.1 0 (IntKind.u32.wrap r37.1)), x.2.2.2.2.1, x.2.2.2.2.2.1, (List.set x.2.2.2.2.2.2.1 0 (IntKind.i64.wrap r38.1)), x.2.2.2.2.2.2.2.1, x.2.2.2.2.2.2.2.2.1, ()))
     else
      if 0 ≤ (2:Int) then (
      if (2:Int) ≤ ((((((x.2.2.2.2.2.2.2.2.2.1 - 1) - 1) - 4) - 2) : Nat) : Int) then (
      if 0 ≤ (2:Int) then (
      if (2:Int) ≤ ((((((x.2.2.2.2.2.2.2.2.2.1 - 1) - 1) - 4) - 2) : Nat) : Int) then (
      (d7 ((List.take 2 (List.drop 9 x.2.2.2.2.2.2.2.2.2.2.2.2.2.1)), ())).bind fun r39 => (
      if ((((((((x.2.2.2.2.2.2.2.2.2.1 - 1) - 1) - 4) - 2) - 2) : Nat) : Int) < (2:Int)) then
       ke (.inl ((List.getD (List.set [0] 0 (8:Int)) 0 0), x.1, (List.set x.2.1 0 (IntKind.i64.wrap r35.1)), (List.set x.2.2.1 0 (IntKind.i64.wrap r36.1)), (List.set x.2.2.2.1 0 (IntKind.u32.wrap r37.1)), x.2.2.2.2.1, x.2.2.2.2.2.1, (List.set x.2.2.2.2.2.2.1 0 (IntKind.i64.wrap r38.1)), (List.set x.2.2.2.2.2.2.2.1 0 (IntKind.i64.wrap r39.1)), x.2.2.2.2.2.2.2.2.1, ()))
      else
       if 0 ≤ (2:Int) then (
       if (2:Int) ≤ (((((((x.2.2.2.2.2.2.2.2.2.1 - 1) - 1) - 4) - 2) - 2) : Nat) : Int) then (
       if 0 ≤ (2:Int) then (
       if (2:Int) ≤ (((((((x.2.2.2.2.2.2.2.2.2.1 - 1) - 1) - 4) - 2) - 2) : Nat) : Int) then (
       (d7 ((List.take 2 (List.drop 11 x.2.2.2.2.2.2.2.2.2.2.2.2.2.1)), ())).bind fun r40 => (
       if (r40.1 > (IntKind.u64.wrap x.2.2.2.2.2.2.2.2.2.2.2.1)) then
        ke (.inl ((List.getD (List.set [0] 0 (3:Int)) 0 0), x.1, (List.set x.2.1 0 (IntKind.i64.wrap r35.1)), (List.set x.2.2.1 0 (IntKind.i64.wrap r36.1)), (List.set x.2.2.2.1 0 (IntKind.u32.wrap r37.1)), x.2.2.2.2.1, x.2.2.2.2.2.1, (List.set x.2.2.2.2.2.2.1 0 (IntKind.i64.wrap r38.1)), (List.set x.2.2.2.2.2.2.2.1 0 (IntKind.i64.wrap r39.1)), x.2.2.2.2.2.2.2.2.1, ()))
       else
        if r40.1 = r40.1 then (
        if (IntKind.i64.wrap r40.1) = (IntKind.i64.wrap r40.1) then (
        if (((((((((x.2.2.2.2.2.2.2.2.2.1 - 1) - 1) - 4) - 2) - 2) - 2) : Nat) : Int) < (IntKind.i64.wrap r40.1)) then
         ke (.inl ((List.getD (List.set [0] 0 (8:Int)) 0 0), x.1, (List.set x.2.1 0 (IntKind.i64.wrap r35.1)), (List.set x.2.2.1 0 (IntKind.i64.wrap r36.1)), (List.set x.2.2.2.1 0 (IntKind.u32.wrap r37.1)), x.2.2.2.2.1, x.2.2.2.2.2.1, (List.set x.2.2.2.2.2.2.1 0 (IntKind.i64.wrap r38.1)), (List.set x.2.2.2.2.2.2.2.1 0 (IntKind.i64.wrap r39.1)), x.2.2.2.2.2.2.2.2.1, ()))
        else
         if 0 ≤ (IntKind.i64.wrap r40.1) then (
         if (IntKind.i64.wrap r40.1) ≤ ((((((((x.2.2.2.2.2.2.2.2.2.1 - 1) - 1) - 4) - 2) - 2) - 2) : Nat) : Int) then (
         if 0 ≤ (IntKind.i64.wrap r40.1) then (
         if (IntKind.i64.wrap r40.1) ≤ ((((((((x.2.2.2.2.2.2.2.2.2.1 - 1) - 1) - 4) - 2) - 2) - 2) : Nat) : Int) then (
         if r40.1 = r40.1 then (
         if (IntKind.i64.wrap r40.1) = (IntKind.i64.wrap r40.1) then (
         (i4 ((List.take ((IntKind.i64.wrap r40.1).toNat) (List.drop 13 x.2.2.2.2.2.2.2.2.2.2.2.2.2.1)), ())).bind fun r41 => (
         if r40.1 = r40.1 then (
         if (IntKind.i64.wrap r40.1) = (IntKind.i64.wrap r40.1) then (
         ke (.inr (x.1, (List.set x.2.1 0 (IntKind.i64.wrap r35.1)), (List.set x.2.2.1 0 (IntKind.i64.wrap r36.1)), (List.set x.2.2.2.1 0 (IntKind.u32.wrap r37.1)), x.2.2.2.2.1, x.2.2.2.2.2.1, (List.set x.2.2.2.2.2.2.1 0 (IntKind.i64.wrap r38.1)), (List.set x.2.2.2.2.2.2.2.1 0 (IntKind.i64.wrap r39.1)), (List.length r41), x.2.2.2.2.2.2.2.2.1, (13 + ((IntKind.i64.wrap r40.1).toNat)), (a2G ((((((x.2.2.2.2.2.2.2.2.2.1 - 1) - 1) - 4) - 2) - 2) - 2) ((IntKind.i64.wrap r40.1).toNat)), (a2G ((((((x.2.2.2.2.2.2.2.2.2.2.1 - 1) - 1) - 4) - 2) - 2) - 2) ((IntKind.i64.wrap r40.1).toNat)), (List.length r41), r41, x.2.2.2.2.2.2.2.2.2.2.2.2.1, x.2.2.2.2.2.2.2.2.2.2.2.2.2.1, ()))) else none) else none)) else none) else none) else none) else none) else none) else none) else none) else none)) else none) else none) else none) else none)) else none) else none) else none) else none)) else none) else none) else none) else none)) else none) else none) else none) else none)) else none) else none) else none) else none)) else none) else none) else none) else none
noncomputable def a1k : Go' W18 := fun y K => match y with
 | .inl y => K (.pan (.ifg 64 .i64) y.1) (fSt { tmps := V :: V :: .sc (.ptr 0 0 false) :: .sc (.ptr 1 0 false) :: pv 44 [], mem := [.live [.xs b64 (some 1), .xs b64 (some 1), .xs b64 (some 1), .xs (.int .u32) (some 1), .xs (.int .u32) (some 1), .xs (.int .u64) (some 2), .xs b64 (some 1), .xs b64 (some 1), .one (.nilsl), .one (.nilsl), .one (.nilsl)] (.own), .live [.xs b64 (some 1)] (.own)], dfr := [(55, [.ptr 0 0 false, .ptr 1 0 false])] } [.xs, .xs, .xs, .xs, .xs, .xs, .xs, .xs, .xs] y.2)
 | .inr y => K .normal (fSt { tmps := V :: V :: .sc (.ptr 0 0 false) :: .sc (.ptr 1 0 false) :: .sc (.ptr 2 0 false) :: pv 43 [], mem := [.live [.xs b64 (some 1), .xs b64 (some 1), .xs b64 (some 1), .xs (.int .u32) (some 1), .xs (.int .u32) (some 1), .xs (.int .u64) (some 2), .xs b64 (some 1), .xs b64 (some 1), .one (.vec 3 none 1), .one (.nilsl), .one (.nilsl)] (.own), .live [.xs b64 (some 1)] (.own), .live [.one (.sl 4 none none none 1)] (.own), .live [.xs b8 none] (.own), .live [.xs b8 none] (.ro)], dfr := [(55, [.ptr 0 0 false, .ptr 1 0 false])] } [.xs, .xs, .xs, .xs, .xs, .xs, .xs, .xs, .nat, .xs, .nat, .nat, .nat, .nat, .xs, .nat, .xs] y)
theorem a7N (N : Nat) : EntryOk p_msg_Get_E o0 N (F5 Q8 (H7 N) a1k) (.seq (H4 8000007 d8) (z0 8000007 d8)) :=
 a8b (body := d8) (k := 7) (OkAll.nil) (by kernel_rfl) (fun x => by kernel_rfl) (fun β x K => by kernel_rfl)
noncomputable def M6 : Shape := mkS { tmps := V :: V :: .sc (.ptr 0 0 false) :: .sc (.ptr 1 0 false) :: .sc (.ptr 2 0 false) :: pv 43 [], mem := [.live [.xs b64 (some 1), .xs b64 (some 1), .xs b64 (some 1), .xs (.int .u32) (some 1), .xs (.int .u32) (some 1), .xs (.int .u64) (some 2), .xs b64 (some 1), .xs b64 (some 1), .one (.vec 3 none 1), .one (.nilsl), .one (.nilsl)] (.own), .live [.xs b64 (some 1)] (.own), .live [.one (.sl 4 none none none 1)] (.own), .live [.xs b8 none] (.own), .live [.xs b8 none] (.ro)], dfr := [(55, [.ptr 0 0 false, .ptr 1 0 false])] } [.xs, .xs, .xs, .xs, .xs, .xs, .xs, .xs, .nat, .xs, .nat, .nat, .nat, .nat, .xs, .nat, .xs]
abbrev W19 : Type := List Int × List Int × List Int × List Int × List Int × List Int × List Int × List Int × Nat × List Int × Nat × Nat × Nat × Nat × List Int × Nat × List Int × Unit
abbrev W20 : Type := (Int × List Int × List Int × List Int × List Int × List Int × List Int × List Int × List Int × Nat × List Int × Nat × List Int × Unit) ⊕ (List Int × List Int × List Int × List Int × List Int × List Int × List Int × List Int × Nat × List Int × Nat × List Int × Unit)
noncomputable def w6 (N : Nat) (β : Type) (x : W19) (ke : W20 → Option β) : Option β :=
 if (((x.2.2.2.2.2.2.2.2.2.2.2.1 : Nat) : Int) > (0:Int)) then
  ke (.inl ((List.getD (List.set [0] 0 (212:Int)) 0 0), x.1, x.2.1, x.2.2.1, x.2.2.2.1, x.2.2.2.2.1, x.2.2.2.2.2.1, x.2.2.2.2.2.2.1, x.2.2.2.2.2.2.2.1, x.2.2.2.2.2.2.2.2.1, x.2.2.2.2.2.2.2.2.2.1, x.2.2.2.2.2.2.2.2.2.2.2.2.2.1, x.2.2.2.2.2.2.2.2.2.2.2.2.2.2.1, ()))
 else
  (y9 (((List.getD x.1 0 0), (List.getD x.2.1 0 0), (List.getD x.2.2.1 0 0), (List.getD x.2.2.2.1 0 0), (List.getD x.2.2.2.2.1 0 0), (List.getD (List.take 1 x.2.2.2.2.2.1) 0 0), (List.getD (List.drop 1 x.2.2.2.2.2.1) 0 0), (List.getD x.2.2.2.2.2.2.1 0 0), (List.getD x.2.2.2.2.2.2.2.1 0 0), x.2.2.2.2.2.2.2.2.2.2.2.2.2.2.1, [], [], ()), ())).bind fun r44 => (
  if (r44 ≠ (0:Int)) then
   ke (.inl ((List.getD (List.set [0] 0 r44) 0 0), x.1, x.2.1, x.2.2.1, x.2.2.2.1, x.2.2.2.2.1, x.2.2.2.2.2.1, x.2.2.2.2.2.2.1, x.2.2.2.2.2.2.2.1, x.2.2.2.2.2.2.2.2.1, x.2.2.2.2.2.2.2.2.2.1, x.2.2.2.2.2.2.2.2.2.2.2.2.2.1, x.2.2.2.2.2.2.2.2.2.2.2.2.2.2.1, ()))
  else
   ke (.inr (x.1, x.2.1, x.2.2.1, x.2.2.2.1, x.2.2.2.2.1, x.2.2.2.2.2.1, x.2.2.2.2.2.2.1, x.2.2.2.2.2.2.2.1, x.2.2.2.2.2.2.2.2.1, (List.set x.2.2.2.2.2.2.2.2.2.1 0 (0:Int)), x.2.2.2.2.2.2.2.2.2.2.2.2.2.1, x.2.2.2.2.2.2.2.2.2.2.2.2.2.2.1, ())))
noncomputable def a0l : Go' W20 := fun y K => match y with
 | .inl y => K (.pan (.ifg 64 .i64) y.1) (fSt { tmps := V :: V :: .sc (.ptr 0 0 false) :: .sc (.ptr 1 0 false) :: pv 44 [], mem := [.live [.xs b64 (some 1), .xs b64 (some 1), .xs b64 (some 1), .xs (.int .u32) (some 1), .xs (.int .u32) (some 1), .xs (.int .u64) (some 2), .xs b64 (some 1), .xs b64 (some 1), .one (.vec 2 none 1), .one (.nilsl), .one (.nilsl)] (.own), .live [.xs b64 (some 1)] (.own), .live [.xs b8 none] (.own)], dfr := [(55, [.ptr 0 0 false, .ptr 1 0 false])] } [.xs, .xs, .xs, .xs, .xs, .xs, .xs, .xs, .nat, .xs, .nat, .xs] y.2)
 | .inr y => K .ret (fSt { tmps := V :: V :: .sc (.ptr 0 0 false) :: .sc (.ptr 1 0 false) :: pv 44 [], mem := [.live [.xs b64 (some 1), .xs b64 (some 1), .xs b64 (some 1), .xs (.int .u32) (some 1), .xs (.int .u32) (some 1), .xs (.int .u64) (some 2), .xs b64 (some 1), .xs b64 (some 1), .one (.vec 2 none 1), .one (.nilsl), .one (.nilsl)] (.own), .live [.xs b64 (some 1)] (.own), .live [.xs b8 none] (.own)], dfr := [(55, [.ptr 0 0 false, .ptr 1 0 false])] } [.xs, .xs, .xs, .xs, .xs, .xs, .xs, .xs, .nat, .xs, .nat, .xs] y)
theorem a6K (N : Nat) : EntryOk p_msg_Get_E o0 N (F5 M6 (w6 N) a0l) (.seq (H4 8000011 d8) (z0 8000011 d8)) :=
 a8b (body := d8) (k := 11) (OkAll.nil) (by kernel_rfl) (fun x => by kernel_rfl) (fun β x K => by kernel_rfl)
noncomputable def Q9 : Shape where
 h := { tmps := [V, V, .sc (.ptr 0 0 false), .sc (.ptr 1 0 false), .sc (.ptr 2 0 false), V, V, V, V, V, V, V, V, V, V, V, V, V, V, V, V, V, .sc (.vec 3 (some 5) 1), .sc (.lit .i64 (5)), .sc (.lit .i64 (0)), V, V, V, V, V, V, V, V, V, V, V, V, V, V, V, V, V, V, V, V, V, V, V], mem := [.live [.xs b64 (some 1), .xs b64 (some 1), .xs b64 (some 1), .xs (.int .u32) (some 1), .xs (.int .u32) (some 1), .xs (.int .u64) (some 2), .xs b64 (some 1), .xs b64 (some 1), .one (.nilsl), .one (.nilsl), .one (.nilsl)] (.own), .live [.xs b64 (some 1)] (.own), .live [.one (.sl 4 (some 1) none none 1)] (.own), .live [.one (.ifp 95 0 1), .one (.ifp 95 0 2), .one (.ifp 98 0 3), .one (.ifp 102 0 8), .one (.ifq 81 0 9 .i64)] (.own), .live [.xs b8 none] (.ro)], dfr := [(55, [.ptr 0 0 false, .ptr 1 0 false])] }
 ks := [.xs, .xs, .xs, .xs, .xs, .xs, .xs, .xs, .xs, .nat, .nat, .int, .nat, .xs]
 st := fun x => { tmps := [U, U, .one (.sc (.ptr 0 0 none)), .one (.sc (.ptr 1 0 none)), .one (.sc (.ptr 2 0 none)), U, U, U, U, U, U, U, U, U, U, U, U, U, U, U, U, U, .one (.sc (.vec 3 5 1)), .one (.sc (.int .i64 (5:Int))), .one (.sc (.int .i64 (0:Int))), U, U, U, U, U, U, U, U, U, U, U, U, U, U, U, U, U, U, U, U, U, U, U], mem := [.live { segs := [.xs b64 1 x.1, .xs b64 1 x.2.1, .xs b64 1 x.2.2.1, .xs (.int .u32) 1 x.2.2.2.1, .xs (.int .u32) 1 x.2.2.2.2.1, .xs (.int .u64) 2 x.2.2.2.2.2.1, .xs b64 1 x.2.2.2.2.2.2.1, .xs b64 1 x.2.2.2.2.2.2.2.1, .one (.nilsl), .one (.nilsl), .one (.nilsl)], own := .own }, .live { segs := [.xs b64 1 x.2.2.2.2.2.2.2.2.1], own := .own }, .live { segs := [.one (.sl 4 1 x.2.2.2.2.2.2.2.2.2.1 x.2.2.2.2.2.2.2.2.2.2.1 1)], own := .own }, .live { segs := [.one (.ifp 95 0 1), .one (.ifp 95 0 2), .one (.ifp 98 0 3), .one (.ifp 102 0 8), .one (.ifq 81 0 9 .i64 x.2.2.2.2.2.2.2.2.2.2.2.1)], own := .own }, .live { segs := [.xs b8 x.2.2.2.2.2.2.2.2.2.2.2.2.1 x.2.2.2.2.2.2.2.2.2.2.2.2.2.1], own := .ro }], dfr := [(55, [.ptr 0 0 none, .ptr 1 0 none])] }
noncomputable def H8 (N : Nat) (β : Type) (x : W17) (ke : W18 → Option β) : Option β :=
 if (((x.2.2.2.2.2.2.2.2.2.1 : Nat) : Int) < (1:Int)) then
  ke (.inl ((List.getD (List.set [0] 0 (8:Int)) 0 0), x.1, x.2.1, x.2.2.1, x.2.2.2.1, x.2.2.2.2.1, x.2.2.2.2.2.1, x.2.2.2.2.2.2.1, x.2.2.2.2.2.2.2.1, x.2.2.2.2.2.2.2.2.1, ()))
 else
  if 0 ≤ (1:Int) then (
  if (1:Int) ≤ ((x.2.2.2.2.2.2.2.2.2.1 : Nat) : Int) then (
  if 0 ≤ (1:Int) then (
  if (1:Int) ≤ ((x.2.2.2.2.2.2.2.2.2.1 : Nat) : Int) then (
  (d7 ((List.take 1 (List.drop 1 x.2.2.2.2.2.2.2.2.2.2.2.2.2.1)), ())).bind fun r47 => (
  if ((((x.2.2.2.2.2.2.2.2.2.1 - 1) : Nat) : Int) < (1:Int)) then
   ke (.inl ((List.getD (List.set [0] 0 (8:Int)) 0 0), x.1, (List.set x.2.1 0 (IntKind.i64.wrap r47.1)), x.2.2.1, x.2.2.2.1, x.2.2.2.2.1, x.2.2.2.2.2.1, x.2.2.2.2.2.2.1, x.2.2.2.2.2.2.2.1, x.2.2.2.2.2.2.2.2.1, ()))
  else
   if 0 ≤ (1:Int) then (
   if (1:Int) ≤ (((x.2.2.2.2.2.2.2.2.2.1 - 1) : Nat) : Int) then (
   if 0 ≤ (1:Int) then (
   if (1:Int) ≤ (((x.2.2.2.2.2.2.2.2.2.1 - 1) : Nat) : Int) then (
   (d7 ((List.take 1 (List.drop 2 x.2.2.2.2.2.2.2.2.2.2.2.2.2.1)), ())).bind fun r48 => (
   if (((((x.2.2.2.2.2.2.2.2.2.1 - 1) - 1) : Nat) : Int) < (4:Int)) then
    ke (.inl ((List.getD (List.set [0] 0 (8:Int)) 0 0), x.1, (List.set x.2.1 0 (IntKind.i64.wrap r47.1)), (List.set x.2.2.1 0 (IntKind.i64.wrap r48.1)), x.2.2.2.1, x.2.2.2.2.1, x.2.2.2.2.2.1, x.2.2.2.2.2.2.1, x.2.2.2.2.2.2.2.1, x.2.2.2.2.2.2.2.2.1, ()))
   else
    if 0 ≤ (4:Int) then (
    if (4:Int) ≤ ((((x.2.2.2.2.2.2.2.2.2.1 - 1) - 1) : Nat) : Int) then (
    if 0 ≤ (4:Int) then (
    if (4:Int) ≤ ((((x.2.2.2.2.2.2.2.2.2.1 - 1) - 1) : Nat) : Int) then (
    (d7 ((List.take 4 (List.drop 3 x.2.2.2.2.2.2.2.2.2.2.2.2.2.1)), ())).bind fun r49 => (
    if ((((((x.2.2.2.2.2.2.2.2.2.1 - 1) - 1) - 4) : Nat) : Int) < (2:Int)) then
     ke (.inl ((List.getD (List.set [0] 0 (8:Int)) 0 0), x.1, (List.set x.2.1 0 (IntKind.i64.wrap r47.1)), (List.set x.2.2.1 0 (IntKind.i64.wrap r48.1)), (List.set x.2.2.2.1 0 (IntKind.u32.wrap r49.1)), x.2.2.2.2.1, x.2.2.2.2.2.1, x.2.2.2.2.2.2.1, x.2.2.2.2.2.2.2.1, x.2.2.2.2.2.2.2.2.1, ()))
    else
     if 0 ≤ (2:Int) then (
     if (2:Int) ≤ (((((x.2.2.2.2.2.2.2.2.2.1 - 1) - 1) - 4) : Nat) : Int) then (
     if 0 ≤ (2:Int) then (
     if (2:Int) ≤ (((((x.2.2.2.2.2.2.2.2.2.1 - 1) - 1) - 4) : Nat) : Int) then (
     (d7 ((List.take 2 (List.drop 7 x.2.2.2.2.2.2.2.2.2.2.2.2.2.1)), ())).bind fun r50 => (
     if (((((((x.2.2.2.2.2.2.2.2.2.1 - 1) - 1) - 4) - 2) : Nat) : Int) < (2:Int)) then
      ke (.inl ((List.getD (List.set [0] 0 (8:Int)) 0 0), x.1, (List.set x.2.1 0 (IntKind.i64.wrap r47.1)), (List.set x.2.2.1 0 (IntKind.i64.wrap r48.1)), (List.set x.2.2.2.1 0 (IntKind.u32.wrap r49.1)), x.2.2.2.2.1, x.2.2.2.2.2.1, x.2.2.2.2.2.2.1, (List.set x.2.2.2.2.2.2.2.1 0 (IntKind.i64.wrap r50.1)), x.2.2.2.2.2.2.2.2.1, ()))
     else
      if 0 ≤ (2:Int) then (
      if (2:Int) ≤ ((((((x.2.2.2.2.2.2.2.2.2.1 - 1) - 1) - 4) - 2) : Nat) : Int) then (
      if 0 ≤ (2:Int) then (
      if (2:Int) ≤ ((((((x.2.2.2.2.2.2.2.2.2.1 - 1) - 1) - 4) - 2) : Nat) : Int) then (
      (d7 ((List.take 2 (List.drop 9 x.2.2.2.2.2.2.2.2.2.2.2.2.2.1)), ())).bind fun r51 => (
      if (r51.1 > (IntKind.u64.wrap x.2.2.2.2.2.2.2.2.2.2.2.1)) then
       ke (.inl ((List.getD (List.set [0] 0 (3:Int)) 0 0), x.1, (List.set x.2.1 0 (IntKind.i64.wrap r47.1)), (List.set x.2.2.1 0 (IntKind.i64.wrap r48.1)), (List.set x.2.2.2.1 0 (IntKind.u32.wrap r49.1)), x.2.2.2.2.1, x.2.2.2.2.2.1, x.2.2.2.2.2.2.1, (List.set x.2.2.2.2.2.2.2.1 0 (IntKind.i64.wrap r50.1)), x.2.2.2.2.2.2.2.2.1, ()))
      else
       if r51.1 = r51.1 then (
       if (IntKind.i64.wrap r51.1) = (IntKind.i64.wrap r51.1) then (
       if ((((((((x.2.2.2.2.2.2.2.2.2.1 - 1) - 1) - 4) - 2) - 2) : Nat) : Int) < (IntKind.i64.wrap r51.1)) then
        ke (.inl ((List.getD (List.set [0] 0 (8:Int)) 0 0), x.1, (List.set x.2.1 0 (IntKind.i64.wrap r47.1)), (List.set x.2.2.1 0 (IntKind.i64.wrap r48.1)), (List.set x.2.2.2.1 0 (IntKind.u32.wrap r49.1)), x.2.2.2.2.1, x.2.2.2.2.2.1, x.2.2.2.2.2.2.1, (List.set x.2.2.2.2.2.2.2.1 0 (IntKind.i64.wrap r50.1)), x.2.2.2.2.2.2.2.2.1, ()))
       else
        if 0 ≤ (IntKind.i64.wrap r51.1) then (
        if (IntKind.i64.wrap r51.1) ≤ (((((((x.2.2.2.2.2.2.2.2.2.1 - 1) - 1) - 4) - 2) - 2) : Nat) : Int) then (
        if 0 ≤ (IntKind.i64.wrap r51.1) then (
        if (IntKind.i64.wrap r51.1) ≤ (((((((x.2.2.2.2.2.2.2.2.2.1 - 1) - 1) - 4) - 2) - 2) : Nat) : Int) then (
        if r51.1 = r51.1 then (
        if (IntKind.i64.wrap r51.1) = (IntKind.i64.wrap r51.1) then (
        (i4 ((List.take ((IntKind.i64.wrap r51.1).toNat) (List.drop 11 x.2.2.2.2.2.2.2.2.2.2.2.2.2.1)), ())).bind fun r52 => (
        if r51.1 = r51.1 then (
        if (IntKind.i64.wrap r51.1) = (IntKind.i64.wrap r51.1) then (
        ke (.inr (x.1, (List.set x.2.1 0 (IntKind.i64.wrap r47.1)), (List.set x.2.2.1 0 (IntKind.i64.wrap r48.1)), (List.set x.2.2.2.1 0 (IntKind.u32.wrap r49.1)), x.2.2.2.2.1, x.2.2.2.2.2.1, x.2.2.2.2.2.2.1, (List.set x.2.2.2.2.2.2.2.1 0 (IntKind.i64.wrap r50.1)), (List.length r52), x.2.2.2.2.2.2.2.2.1, (11 + ((IntKind.i64.wrap r51.1).toNat)), (a2G (((((x.2.2.2.2.2.2.2.2.2.1 - 1) - 1) - 4) - 2) - 2) ((IntKind.i64.wrap r51.1).toNat)), (a2G (((((x.2.2.2.2.2.2.2.2.2.2.1 - 1) - 1) - 4) - 2) - 2) ((IntKind.i64.wrap r51.1).toNat)), (List.length r52), r52, x.2.2.2.2.2.2.2.2.2.2.2.2.1, x.2.2.2.2.2.2.2.2.2.2.2.2.2.1, ()))) else none) else none)) else none) else none) else none) else none) else none) else none) else none) else none)) else none) else none) else none) else none)) else none) else none) else none) else none)) else none) else none) else none) else none)) else none) else none) else none) else none)) else none) else none) else none) else none
noncomputable def a1l : Go' W18 := fun y K => match y with
 | .inl y => K (.pan (.ifg 64 .i64) y.1) (fSt { tmps := V :: V :: .sc (.ptr 0 0 false) :: .sc (.ptr 1 0 false) :: pv 44 [], mem := [.live [.xs b64 (some 1), .xs b64 (some 1), .xs b64 (some 1), .xs (.int .u32) (some 1), .xs (.int .u32) (some 1), .xs (.int .u64) (some 2), .xs b64 (some 1), .xs b64 (some 1), .one (.nilsl), .one (.nilsl), .one (.nilsl)] (.own), .live [.xs b64 (some 1)] (.own)], dfr := [(55, [.ptr 0 0 false, .ptr 1 0 false])] } [.xs, .xs, .xs, .xs, .xs, .xs, .xs, .xs, .xs] y.2)
 | .inr y => K .normal (fSt { tmps := V :: V :: .sc (.ptr 0 0 false) :: .sc (.ptr 1 0 false) :: .sc (.ptr 2 0 false) :: pv 43 [], mem := [.live [.xs b64 (some 1), .xs b64 (some 1), .xs b64 (some 1), .xs (.int .u32) (some 1), .xs (.int .u32) (some 1), .xs (.int .u64) (some 2), .xs b64 (some 1), .xs b64 (some 1), .one (.vec 3 none 1), .one (.nilsl), .one (.nilsl)] (.own), .live [.xs b64 (some 1)] (.own), .live [.one (.sl 4 none none none 1)] (.own), .live [.xs b8 none] (.own), .live [.xs b8 none] (.ro)], dfr := [(55, [.ptr 0 0 false, .ptr 1 0 false])] } [.xs, .xs, .xs, .xs, .xs, .xs, .xs, .xs, .nat, .xs, .nat, .nat, .nat, .nat, .xs, .nat, .xs] y)
theorem a7O (N : Nat) : EntryOk p_msg_Get_E o0 N (F5 Q9 (H8 N) a1l) (.seq (H4 8000007 d8) (z0 8000007 d8)) :=
 a8b (body := d8) (k := 7) (OkAll.nil) (by kernel_rfl) (fun x => by kernel_rfl) (fun β x K => by kernel_rfl)
end Go.Ax.TryP
set_option linter.unusedVariables false
namespace Go.Ax.TryP
open Go.Proofs
noncomputable def R0 : Shape where
 h := { tmps := [V, V, .sc (.ptr 0 0 false), .sc (.ptr 1 0 false), .sc (.ptr 2 0 false), V, V, V, V, V, V, V, V, V, V, V, V, V, V, V, V, V, .sc (.vec 3 (some 7) 1), .sc (.lit .i64 (7)), .sc (.lit .i64 (0)), V, V, V, V, V, V, V, V, V, V, V, V, V, V, V, V, V, V, V, V, V, V, V], mem := [.live [.xs b64 (some 1), .xs b64 (some 1), .xs b64 (some 1), .xs (.int .u32) (some 1), .xs (.int .u32) (some 1), .xs (.int .u64) (some 2), .xs b64 (some 1), .xs b64 (some 1), .one (.nilsl), .one (.nilsl), .one (.nilsl)] (.own), .live [.xs b64 (some 1)] (.own), .live [.one (.sl 4 (some 1) none none 1)] (.own), .live [.one (.ifp 95 0 1), .one (.ifp 95 0 2), .one (.ifp 98 0 3), .one (.ifp 98 0 4), .one (.ifp 101 0 5), .one (.ifp 101 0 6), .one (.ifq 81 0 11 .i64)] (.own), .live [.xs b8 none] (.ro)], dfr := [(55, [.ptr 0 0 false, .ptr 1 0 false])] }
 ks := [.xs, .xs, .xs, .xs, .xs, .xs, .xs, .xs, .xs, .nat, .nat, .int, .nat, .xs]
 st := fun x => { tmps := [U, U, .one (.sc (.ptr 0 0 none)), .one (.sc (.ptr 1 0 none)), .one (.sc (.ptr 2 0 none)), U, U, U, U, U, U, U, U, U, U, U, U, U, U, U, U, U, .one (.sc (.vec 3 7 1)), .one (.sc (.int .i64 (7:Int))), .one (.sc (.int .i64 (0:Int))), U, U, U, U, U, U, U, U, U, U, U, U, U, U, U, U, U, U, U, U, U, U, U], mem := [.live { segs := [.xs b64 1 x.1, .xs b64 1 x.2.1, .xs b64 1 x.2.2.1, .xs (.int .u32) 1 x.2.2.2.1, .xs (.int .u32) 1 x.2.2.2.2.1, .xs (.int .u64) 2 x.2.2.2.2.2.1, .xs b64 1 x.2.2.2.2.2.2.1, .xs b64 1 x.2.2.2.2.2.2.2.1, .one (.nilsl), .one (.nilsl), .one (.nilsl)], own := .own }, .live { segs := [.xs b64 1 x.2.2.2.2.2.2.2.2.1], own := .own }, .live { segs := [.one (.sl 4 1 x.2.2.2.2.2.2.2.2.2.1 x.2.2.2.2.2.2.2.2.2.2.1 1)], own := .own }, .live { segs := [.one (.ifp 95 0 1), .one (.ifp 95 0 2), .one (.ifp 98 0 3), .one (.ifp 98 0 4), .one (.ifp 101 0 5), .one (.ifp 101 0 6), .one (.ifq 81 0 11 .i64 x.2.2.2.2.2.2.2.2.2.2.2.1)], own := .own }, .live { segs := [.xs b8 x.2.2.2.2.2.2.2.2.2.2.2.2.1 x.2.2.2.2.2.2.2.2.2.2.2.2.2.1], own := .ro }], dfr := [(55, [.ptr 0 0 none, .ptr 1 0 none])] }
noncomputable def x7 (N : Nat) (β : Type) (x : W17) (ke : W18 → Option β) : Option β :=
 if (((x.2.2.2.2.2.2.2.2.2.1 : Nat) : Int) < (1:Int)) then
  ke (.inl ((List.getD (List.set [0] 0 (8:Int)) 0 0), x.1, x.2.1, x.2.2.1, x.2.2.2.1, x.2.2.2.2.1, x.2.2.2.2.2.1, x.2.2.2.2.2.2.1, x.2.2.2.2.2.2.2.1, x.2.2.2.2.2.2.2.2.1, ()))
 else
  if 0 ≤ (1:Int) then (
  if (1:Int) ≤ ((x.2.2.2.2.2.2.2.2.2.1 : Nat) : Int) then (
  if 0 ≤ (1:Int) then (
  if (1:Int) ≤ ((x.2.2.2.2.2.2.2.2.2.1 : Nat) : Int) then (
  (d7 ((List.take 1 (List.drop 1 x.2.2.2.2.2.2.2.2.2.2.2.2.2.1)), ())).bind fun r57 => (
  if ((((x.2.2.2.2.2.2.2.2.2.1 - 1) : Nat) : Int) < (1:Int)) then
   ke (.inl ((List.getD (List.set [0] 0 (8:Int)) 0 0), x.1, (List.set x.2.1 0 (IntKind.i64.wrap r57.1)), x.2.2.1, x.2.2.2.1, x.2.2.2.2.1, x.2.2.2.2.2.1, x.2.2.2.2.2.2.1, x.2.2.2.2.2.2.2.1, x.2.2.2.2.2.2.2.2.1, ()))
  else
   if 0 ≤ (1:Int) then (
   if (1:Int) ≤ (((x.2.2.2.2.2.2.2.2.2.1 - 1) : Nat) : Int) then (
   if 0 ≤ (1:Int) then (
   if (1:Int) ≤ (((x.2.2.2.2.2.2.2.2.2.1 - 1) : Nat) : Int) then (
   (d7 ((List.take 1 (List.drop 2 x.2.2.2.2.2.2.2.2.2.2.2.2.2.1)), ())).bind fun r58 => (
   if (((((x.2.2.2.2.2.2.2.2.2.1 - 1) - 1) : Nat) : Int) < (4:Int)) then
    ke (.inl ((List.getD (List.set [0] 0 (8:Int)) 0 0), x.1, (List.set x.2.1 0 (IntKind.i64.wrap r57.1)), (List.set x.2.2.1 0 (IntKind.i64.wrap r58.1)), x.2.2.2.1, x.2.2.2.2.1, x.2.2.2.2.2.1, x.2.2.2.2.2.2.1, x.2.2.2.2.2.2.2.1, x.2.2.2.2.2.2.2.2.1, ()))
   else
    if 0 ≤ (4:Int) then (
    if (4:Int) ≤ ((((x.2.2.2.2.2.2.2.2.2.1 - 1) - 1) : Nat) : Int) then (
    if 0 ≤ (4:Int) then (
    if (4:Int) ≤ ((((x.2.2.2.2.2.2.2.2.2.1 - 1) - 1) : Nat) : Int) then (
    (d7 ((List.take 4 (List.drop 3 x.2.2.2.2.2.2.2.2.2.2.2.2.2.1)), ())).bind fun r59 => (
    if ((((((x.2.2.2.2.2.2.2.2.2.1 - 1) - 1) - 4) : Nat) : Int) < (4:Int)) then
     ke (.inl ((List.getD (List.set [0] 0 (8:Int)) 0 0), x.1, (List.set x.2.1 0 (IntKind.i64.wrap r57.1)), (List.set x.2.2.1 0 (IntKind.i64.wrap r58.1)), (List.set x.2.2.2.1 0 (IntKind.u32.wrap r59.1)), x.2.2.2.2.1, x.2.2.2.2.2.1, x.2.2.2.2.2.2.1, x.2.2.2.2.2.2.2.1, x.2.2.2.2.2.2.2.2.1, ()))
    else
     if 0 ≤ (4:Int) then (
     if (4:Int) ≤ (((((x.2.2.2.2.2.2.2.2.2.1 - 1) - 1) - 4) : Nat) : Int) then (
     if 0 ≤ (4:Int) then (
     if (4:Int) ≤ (((((x.2.2.2.2.2.2.2.2.2.1 - 1) - 1) - 4) : Nat) : Int) then (
     (d7 ((List.take 4 (List.drop 7 x.2.2.2.2.2.2.2.2.2.2.2.2.2.1)), ())).bind fun r60 => (
     if (((((((x.2.2.2.2.2.2.2.2.2.1 - 1) - 1) - 4) - 4) : Nat) : Int) < (8:Int)) then
      ke (.inl ((List.getD (List.set [0] 0 (8:Int)) 0 0), x.1, (List.set x.2.1 0 (IntKind.i64.wrap r57.1)), (List.set x.2.2.1 0 (IntKind.i64.wrap r58.1)), (List.set x.2.2.2.1 0 (IntKind.u32.wrap r59.1)), (List.set x.2.2.2.2.1 0 (IntKind.u32.wrap r60.1)), x.2.2.2.2.2.1, x.2.2.2.2.2.2.1, x.2.2.2.2.2.2.2.1, x.2.2.2.2.2.2.2.2.1, ()))
     else
      if 0 ≤ (8:Int) then (
      if (8:Int) ≤ ((((((x.2.2.2.2.2.2.2.2.2.1 - 1) - 1) - 4) - 4) : Nat) : Int) then (
      if 0 ≤ (8:Int) then (
      if (8:Int) ≤ ((((((x.2.2.2.2.2.2.2.2.2.1 - 1) - 1) - 4) - 4) : Nat) : Int) then (
      (d7 ((List.take 8 (List.drop 11 x.2.2.2.2.2.2.2.2.2.2.2.2.2.1)), ())).bind fun r61 => (
      if ((((((((x.2.2.2.2.2.2.2.2.2.1 - 1) - 1) - 4) - 4) - 8) : Nat) : Int) < (8:Int)) then
       ke (.inl ((List.getD (List.set [0] 0 (8:Int)) 0 0), x.1, (List.set x.2.1 0 (IntKind.i64.wrap r57.1)), (List.set x.2.2.1 0 (IntKind.i64.wrap r58.1)), (List.set x.2.2.2.1 0 (IntKind.u32.wrap r59.1)), (List.set x.2.2.2.2.1 0 (IntKind.u32.wrap r60.1)), (List.set x.2.2.2.2.2.1 0 r61.1), x.2.2.2.2.2.2.1, x.2.2.2.2.2.2.2.1, x.2.2.2.2.2.2.2.2.1, ()))
      else
       if 0 ≤ (8:Int) then (
       if (8:Int) ≤ (((((((x.2.2.2.2.2.2.2.2.2.1 - 1) - 1) - 4) - 4) - 8) : Nat) : Int) then (
       if 0 ≤ (8:Int) then (
       if (8:Int) ≤ (((((((x.2.2.2.2.2.2.2.2.2.1 - 1) - 1) - 4) - 4) - 8) : Nat) : Int) then (
       (d7 ((List.take 8 (List.drop 19 x.2.2.2.2.2.2.2.2.2.2.2.2.2.1)), ())).bind fun r62 => (
       if (((((((((x.2.2.2.2.2.2.2.2.2.1 - 1) - 1) - 4) - 4) - 8) - 8) : Nat) : Int) < (2:Int)) then
        ke (.inl ((List.getD (List.set [0] 0 (8:Int)) 0 0), x.1, (List.set x.2.1 0 (IntKind.i64.wrap r57.1)), (List.set x.2.2.1 0 (IntKind.i64.wrap r58.1)), (List.set x.2.2.2.1 0 (IntKind.u32.wrap r59.1)), (List.set x.2.2.2.2.1 0 (IntKind.u32.wrap r60.1)), (List.set (List.set x.2.2.2.2.2.1 0 r61.1) 1 r62.1), x.2.2.2.2.2.2.1, x.2.2.2.2.2.2.2.1, x.2.2.2.2.2.2.2.2.1, ()))
       else
        if 0 ≤ (2:Int) then (
        if (2:Int) ≤ ((((((((x.2.2.2.2.2.2.2.2.2.1 - 1) - 1) - 4) - 4) - 8) - 8) : Nat) : Int) then (
        if 0 ≤ (2:Int) then (
        if (2:Int) ≤ ((((((((x.2.2.2.2.2.2.2.2.2.1 - 1) - 1) - 4) - 4) - 8) - 8) : Nat) : Int) then (
        (d7 ((List.take 2 (List.drop 27 x.2.2.2.2.2.2.2.2.2.2.2.2.2.1)), ())).bind fun r63 => (
        if (r63.1 > (IntKind.u64.wrap x.2.2.2.2.2.2.2.2.2.2.2.1)) then
         ke (.inl ((List.getD (List.set [0] 0 (3:Int)) 0 0), x.1, (List.set x.2.1 0 (IntKind.i64.wrap r57.1)), (List.set x.2.2.1 0 (IntKind.i64.wrap r58.1)), (List.set x.2.2.2.1 0 (IntKind.u32.wrap r59.1)), (List.set x.2.2.2.2.1 0 (IntKind.u32.wrap r60.1)), (List.set (List.set x.2.2.2.2.2.1 0 r61.1) 1 r62.1), x.2.2.2.2.2.2.1, x.2.2.2.2.2.2.2.1, x.2.2.2.2.2.2.2.2.1, ()))
        else
         if r63.1 = r63.1 then (
         if (IntKind.i64.wrap r63.1) = (IntKind.i64.wrap r63.1) then (
         if ((((((((((x.2.2.2.2.2.2.2.2.2.1 - 1) - 1) - 4) - 4) - 8) - 8) - 2) : Nat) : Int) < (IntKind.i64.wrap r63.1)) then
          ke (.inl ((List.getD (List.set [0] 0 (8:Int)) 0 0), x.1, (List.set x.2.1 0 (IntKind.i64.wrap r57.1)), (List.set x.2.2.1 0 (IntKind.i64.wrap r58.1)), (List.set x.2.2.2.1 0 (IntKind.u32.wrap r59.1)), (List.set x.2.2.2.2.1 0 (IntKind.u32.wrap r60.1)), (List.set (List.set x.2.2.2.2.2.1 0 r61.1) 1 r62.1), x.2.2.2.2.2.2.1, x.2.2.2.2.2.2.2.1, x.2.2.2.2.2.2.2.2.1, ()))
         else
          if 0 ≤ (IntKind.i64.wrap r63.1) then (
          if (IntKind.i64.wrap r63.1) ≤ (((((((((x.2.2.2.2.2.2.2.2.2.1 - 1) - 1) - 4) - 4) - 8) - 8) - 2) : Nat) : Int) then (
          if 0 ≤ (IntKind.i64.wrap r63.1) then (
          if (IntKind.i64.wrap r63.1) ≤ (((((((((x.2.2.2.2.2.2.2.2.2.1 - 1) - 1) - 4) - 4) - 8) - 8) - 2) : Nat) : Int) then (
          if r63.1 = r63.1 then (
          if (IntKind.i64.wrap r63.1) = (IntKind.i64.wrap r63.1) then (
          (i4 ((List.take ((IntKind.i64.wrap r63.1).toNat) (List.drop 29 x.2.2.2.2.2.2.2.2.2.2.2.2.2.1)), ())).bind fun r64 => (
          if r63.1 = r63.1 then (
          if (IntKind.i64.wrap r63.1) = (IntKind.i64.wrap r63.1) then (
          ke (.inr (x.1, (List.set x.2.1 0 (IntKind.i64.wrap r57.1)), (List.set x.2.2.1 0 (IntKind.i64.wrap r58.1)), (List.set x.2.2.2.1 0 (IntKind.u32.wrap r59.1)), (List.set x.2.2.2.2.1 0 (IntKind.u32.wrap r60.1)), (List.set (List.set x.2.2.2.2.2.1 0 r61.1) 1 r62.1), x.2.2.2.2.2.2.1, x.2.2.2.2.2.2.2.1, (List.length r64), x.2.2.2.2.2.2.2.2.1, (29 + ((IntKind.i64.wrap r63.1).toNat)), (a2G (((((((x.2.2.2.2.2.2.2.2.2.1 - 1) - 1) - 4) - 4) - 8) - 8) - 2) ((IntKind.i64.wrap r63.1).toNat)), (a2G (((((((x.2.2.2.2.2.2.2.2.2.2.1 - 1) - 1) - 4) - 4) - 8) - 8) - 2) ((IntKind.i64.wrap r63.1).toNat)), (List.length r64), r64, x.2.2.2.2.2.2.2.2.2.2.2.2.1, x.2.2.2.2.2.2.2.2.2.2.2.2.2.1, ()))) else none) else none)) else none) else none) else none) else none) else none) else none) else none) else none)) else none) else none) else none) else none)) else none) else none) else none) else none)) else none) else none) else none) else none)) else none) else none) else none) else none)) else none) else none) else none) else none)) else none) else none) else none) else none)) else none) else none) else none) else none
noncomputable def a1m : Go' W18 := fun y K => match y with
 | .inl y => K (.pan (.ifg 64 .i64) y.1) (fSt { tmps := V :: V :: .sc (.ptr 0 0 false) :: .sc (.ptr 1 0 false) :: pv 44 [], mem := [.live [.xs b64 (some 1), .xs b64 (some 1), .xs b64 (some 1), .xs (.int .u32) (some 1), .xs (.int .u32) (some 1), .xs (.int .u64) (some 2), .xs b64 (some 1), .xs b64 (some 1), .one (.nilsl), .one (.nilsl), .one (.nilsl)] (.own), .live [.xs b64 (some 1)] (.own)], dfr := [(55, [.ptr 0 0 false, .ptr 1 0 false])] } [.xs, .xs, .xs, .xs, .xs, .xs, .xs, .xs, .xs] y.2)
 | .inr y => K .normal (fSt { tmps := V :: V :: .sc (.ptr 0 0 false) :: .sc (.ptr 1 0 false) :: .sc (.ptr 2 0 false) :: pv 43 [], mem := [.live [.xs b64 (some 1), .xs b64 (some 1), .xs b64 (some 1), .xs (.int .u32) (some 1), .xs (.int .u32) (some 1), .xs (.int .u64) (some 2), .xs b64 (some 1), .xs b64 (some 1), .one (.nilsl), .one (.nilsl), .one (.vec 3 none 1)] (.own), .live [.xs b64 (some 1)] (.own), .live [.one (.sl 4 none none none 1)] (.own), .live [.xs b8 none] (.own), .live [.xs b8 none] (.ro)], dfr := [(55, [.ptr 0 0 false, .ptr 1 0 false])] } [.xs, .xs, .xs, .xs, .xs, .xs, .xs, .xs, .nat, .xs, .nat, .nat, .nat, .nat, .xs, .nat, .xs] y)
theorem a7P (N : Nat) : EntryOk p_msg_Get_E o0 N (F5 R0 (x7 N) a1m) (.seq (H4 8000007 d8) (z0 8000007 d8)) :=
 a8b (body := d8) (k := 7) (OkAll.nil) (by kernel_rfl) (fun x => by kernel_rfl) (fun β x K => by kernel_rfl)
noncomputable def M7 : Shape := mkS { tmps := V :: V :: .sc (.ptr 0 0 false) :: .sc (.ptr 1 0 false) :: .sc (.ptr 2 0 false) :: pv 43 [], mem := [.live [.xs b64 (some 1), .xs b64 (some 1), .xs b64 (some 1), .xs (.int .u32) (some 1), .xs (.int .u32) (some 1), .xs (.int .u64) (some 2), .xs b64 (some 1), .xs b64 (some 1), .one (.nilsl), .one (.nilsl), .one (.vec 3 none 1)] (.own), .live [.xs b64 (some 1)] (.own), .live [.one (.sl 4 none none none 1)] (.own), .live [.xs b8 none] (.own), .live [.xs b8 none] (.ro)], dfr := [(55, [.ptr 0 0 false, .ptr 1 0 false])] } [.xs, .xs, .xs, .xs, .xs, .xs, .xs, .xs, .nat, .xs, .nat, .nat, .nat, .nat, .xs, .nat, .xs]
noncomputable def w7 (N : Nat) (β : Type) (x : W19) (ke : W20 → Option β) : Option β :=
 if (((x.2.2.2.2.2.2.2.2.2.2.2.1 : Nat) : Int) > (0:Int)) then
  ke (.inl ((List.getD (List.set [0] 0 (212:Int)) 0 0), x.1, x.2.1, x.2.2.1, x.2.2.2.1, x.2.2.2.2.1, x.2.2.2.2.2.1, x.2.2.2.2.2.2.1, x.2.2.2.2.2.2.2.1, x.2.2.2.2.2.2.2.2.1, x.2.2.2.2.2.2.2.2.2.1, x.2.2.2.2.2.2.2.2.2.2.2.2.2.1, x.2.2.2.2.2.2.2.2.2.2.2.2.2.2.1, ()))
 else
  (y9 (((List.getD x.1 0 0), (List.getD x.2.1 0 0), (List.getD x.2.2.1 0 0), (List.getD x.2.2.2.1 0 0), (List.getD x.2.2.2.2.1 0 0), (List.getD (List.take 1 x.2.2.2.2.2.1) 0 0), (List.getD (List.drop 1 x.2.2.2.2.2.1) 0 0), (List.getD x.2.2.2.2.2.2.1 0 0), (List.getD x.2.2.2.2.2.2.2.1 0 0), [], [], x.2.2.2.2.2.2.2.2.2.2.2.2.2.2.1, ()), ())).bind fun r67 => (
  if (r67 ≠ (0:Int)) then
   ke (.inl ((List.getD (List.set [0] 0 r67) 0 0), x.1, x.2.1, x.2.2.1, x.2.2.2.1, x.2.2.2.2.1, x.2.2.2.2.2.1, x.2.2.2.2.2.2.1, x.2.2.2.2.2.2.2.1, x.2.2.2.2.2.2.2.2.1, x.2.2.2.2.2.2.2.2.2.1, x.2.2.2.2.2.2.2.2.2.2.2.2.2.1, x.2.2.2.2.2.2.2.2.2.2.2.2.2.2.1, ()))
  else
   ke (.inr (x.1, x.2.1, x.2.2.1, x.2.2.2.1, x.2.2.2.2.1, x.2.2.2.2.2.1, x.2.2.2.2.2.2.1, x.2.2.2.2.2.2.2.1, x.2.2.2.2.2.2.2.2.1, (List.set x.2.2.2.2.2.2.2.2.2.1 0 (0:Int)), x.2.2.2.2.2.2.2.2.2.2.2.2.2.1, x.2.2.2.2.2.2.2.2.2.2.2.2.2.2.1, ())))
noncomputable def a0m : Go' W20 := fun y K => match y with
 | .inl y => K (.pan (.ifg 64 .i64) y.1) (fSt { tmps := V :: V :: .sc (.ptr 0 0 false) :: .sc (.ptr 1 0 false) :: pv 44 [], mem := [.live [.xs b64 (some 1), .xs b64 (some 1), .xs b64 (some 1), .xs (.int .u32) (some 1), .xs (.int .u32) (some 1), .xs (.int .u64) (some 2), .xs b64 (some 1), .xs b64 (some 1), .one (.nilsl), .one (.nilsl), .one (.vec 2 none 1)] (.own), .live [.xs b64 (some 1)] (.own), .live [.xs b8 none] (.own)], dfr := [(55, [.ptr 0 0 false, .ptr 1 0 false])] } [.xs, .xs, .xs, .xs, .xs, .xs, .xs, .xs, .nat, .xs, .nat, .xs] y.2)
 | .inr y => K .ret (fSt { tmps := V :: V :: .sc (.ptr 0 0 false) :: .sc (.ptr 1 0 false) :: pv 44 [], mem := [.live [.xs b64 (some 1), .xs b64 (some 1), .xs b64 (some 1), .xs (.int .u32) (some 1), .xs (.int .u32) (some 1), .xs (.int .u64) (some 2), .xs b64 (some 1), .xs b64 (some 1), .one (.nilsl), .one (.nilsl), .one (.vec 2 none 1)] (.own), .live [.xs b64 (some 1)] (.own), .live [.xs b8 none] (.own)], dfr := [(55, [.ptr 0 0 false, .ptr 1 0 false])] } [.xs, .xs, .xs, .xs, .xs, .xs, .xs, .xs, .nat, .xs, .nat, .xs] y)
theorem a6L (N : Nat) : EntryOk p_msg_Get_E o0 N (F5 M7 (w7 N) a0m) (.seq (H4 8000011 d8) (z0 8000011 d8)) :=
 a8b (body := d8) (k := 11) (OkAll.nil) (by kernel_rfl) (fun x => by kernel_rfl) (fun β x K => by kernel_rfl)
noncomputable def a2x : Shape where
 h := { tmps := [V, V, .sc (.ptr 0 0 false), .sc (.ptr 1 0 false), .sc (.ptr 2 0 false), V, V, V, V, V, V, V, V, V, V, V, V, V, V, V, V, V, .sc (.vec 3 (some 3) 1), .sc (.lit .i64 (3)), .sc (.lit .i64 (0)), V, V, V, V, V, V, V, V, V, V, V, V, V, V, V, V, V, V, V, V, V, V, V], mem := [.live [.xs b64 (some 1), .xs b64 (some 1), .xs b64 (some 1), .xs (.int .u32) (some 1), .xs (.int .u32) (some 1), .xs (.int .u64) (some 2), .xs b64 (some 1), .xs b64 (some 1), .one (.nilsl), .one (.nilsl), .one (.nilsl)] (.own), .live [.xs b64 (some 1)] (.own), .live [.one (.sl 4 (some 1) none none 1)] (.own), .live [.one (.ifp 95 0 1), .one (.ifp 95 0 2), .one (.ifp 98 0 3)] (.own), .live [.xs b8 none] (.ro)], dfr := [(55, [.ptr 0 0 false, .ptr 1 0 false])] }
 ks := [.xs, .xs, .xs, .xs, .xs, .xs, .xs, .xs, .xs, .nat, .nat, .nat, .xs]
 st := fun x => { tmps := [U, U, .one (.sc (.ptr 0 0 none)), .one (.sc (.ptr 1 0 none)), .one (.sc (.ptr 2 0 none)), U, U, U, U, U, U, U, U, U, U, U, U, U, U, U, U, U, .one (.sc (.vec 3 3 1)), .one (.sc (.int .i64 (3:Int))), .one (.sc (.int .i64 (0:Int))), U, U, U, U, U, U, U, U, U, U, U, U, U, U, U, U, U, U, U, U, U, U, U], mem := [.live { segs := [.xs b64 1 x.1, .xs b64 1 x.2.1, .xs b64 1 x.2.2.1, .xs (.int .u32) 1 x.2.2.2.1, .xs (.int .u32) 1 x.2.2.2.2.1, .xs (.int .u64) 2 x.2.2.2.2.2.1, .xs b64 1 x.2.2.2.2.2.2.1, .xs b64 1 x.2.2.2.2.2.2.2.1, .one (.nilsl), .one (.nilsl), .one (.nilsl)], own := .own }, .live { segs := [.xs b64 1 x.2.2.2.2.2.2.2.2.1], own := .own }, .live { segs := [.one (.sl 4 1 x.2.2.2.2.2.2.2.2.2.1 x.2.2.2.2.2.2.2.2.2.2.1 1)], own := .own }, .live { segs := [.one (.ifp 95 0 1), .one (.ifp 95 0 2), .one (.ifp 98 0 3)], own := .own }, .live { segs := [.xs b8 x.2.2.2.2.2.2.2.2.2.2.2.1 x.2.2.2.2.2.2.2.2.2.2.2.2.1], own := .ro }], dfr := [(55, [.ptr 0 0 none, .ptr 1 0 none])] }
abbrev W21 : Type := List Int × List Int × List Int × List Int × List Int × List Int × List Int × List Int × List Int × Nat × Nat × Nat × List Int × Unit
abbrev W22 : Type := (Int × List Int × List Int × List Int × List Int × List Int × List Int × List Int × List Int × List Int × Unit) ⊕ (List Int × List Int × List Int × List Int × List Int × List Int × List Int × List Int × List Int × Nat × Nat × Nat × List Int × Unit)
noncomputable def H9 (N : Nat) (β : Type) (x : W21) (ke : W22 → Option β) : Option β :=
 if (((x.2.2.2.2.2.2.2.2.2.1 : Nat) : Int) < (1:Int)) then
  ke (.inl ((List.getD (List.set [0] 0 (8:Int)) 0 0), x.1, x.2.1, x.2.2.1, x.2.2.2.1, x.2.2.2.2.1, x.2.2.2.2.2.1, x.2.2.2.2.2.2.1, x.2.2.2.2.2.2.2.1, x.2.2.2.2.2.2.2.2.1, ()))
 else
  if 0 ≤ (1:Int) then (
  if (1:Int) ≤ ((x.2.2.2.2.2.2.2.2.2.1 : Nat) : Int) then (
  if 0 ≤ (1:Int) then (
  if (1:Int) ≤ ((x.2.2.2.2.2.2.2.2.2.1 : Nat) : Int) then (
  (d7 ((List.take 1 (List.drop 1 x.2.2.2.2.2.2.2.2.2.2.2.2.1)), ())).bind fun r74 => (
  if ((((x.2.2.2.2.2.2.2.2.2.1 - 1) : Nat) : Int) < (1:Int)) then
   ke (.inl ((List.getD (List.set [0] 0 (8:Int)) 0 0), x.1, (List.set x.2.1 0 (IntKind.i64.wrap r74.1)), x.2.2.1, x.2.2.2.1, x.2.2.2.2.1, x.2.2.2.2.2.1, x.2.2.2.2.2.2.1, x.2.2.2.2.2.2.2.1, x.2.2.2.2.2.2.2.2.1, ()))
  else
   if 0 ≤ (1:Int) then (
   if (1:Int) ≤ (((x.2.2.2.2.2.2.2.2.2.1 - 1) : Nat) : Int) then (
   if 0 ≤ (1:Int) then (
   if (1:Int) ≤ (((x.2.2.2.2.2.2.2.2.2.1 - 1) : Nat) : Int) then (
   (d7 ((List.take 1 (List.drop 2 x.2.2.2.2.2.2.2.2.2.2.2.2.1)), ())).bind fun r75 => (
   if (((((x.2.2.2.2.2.2.2.2.2.1 - 1) - 1) : Nat) : Int) < (4:Int)) then
    ke (.inl ((List.getD (List.set [0] 0 (8:Int)) 0 0), x.1, (List.set x.2.1 0 (IntKind.i64.wrap r74.1)), (List.set x.2.2.1 0 (IntKind.i64.wrap r75.1)), x.2.2.2.1, x.2.2.2.2.1, x.2.2.2.2.2.1, x.2.2.2.2.2.2.1, x.2.2.2.2.2.2.2.1, x.2.2.2.2.2.2.2.2.1, ()))
   else
    if 0 ≤ (4:Int) then (
    if (4:Int) ≤ ((((x.2.2.2.2.2.2.2.2.2.1 - 1) - 1) : Nat) : Int) then (
    if 0 ≤ (4:Int) then (
    if (4:Int) ≤ ((((x.2.2.2.2.2.2.2.2.2.1 - 1) - 1) : Nat) : Int) then (
    (d7 ((List.take 4 (List.drop 3 x.2.2.2.2.2.2.2.2.2.2.2.2.1)), ())).bind fun r76 => (
    ke (.inr (x.1, (List.set x.2.1 0 (IntKind.i64.wrap r74.1)), (List.set x.2.2.1 0 (IntKind.i64.wrap r75.1)), (List.set x.2.2.2.1 0 (IntKind.u32.wrap r76.1)), x.2.2.2.2.1, x.2.2.2.2.2.1, x.2.2.2.2.2.2.1, x.2.2.2.2.2.2.2.1, x.2.2.2.2.2.2.2.2.1, (((x.2.2.2.2.2.2.2.2.2.1 - 1) - 1) - 4), (((x.2.2.2.2.2.2.2.2.2.2.1 - 1) - 1) - 4), x.2.2.2.2.2.2.2.2.2.2.2.1, x.2.2.2.2.2.2.2.2.2.2.2.2.1, ())))) else none) else none) else none) else none)) else none) else none) else none) else none)) else none) else none) else none) else none
noncomputable def a1n : Go' W22 := fun y K => match y with
 | .inl y => K (.pan (.ifg 64 .i64) y.1) (fSt { tmps := V :: V :: .sc (.ptr 0 0 false) :: .sc (.ptr 1 0 false) :: pv 44 [], mem := [.live [.xs b64 (some 1), .xs b64 (some 1), .xs b64 (some 1), .xs (.int .u32) (some 1), .xs (.int .u32) (some 1), .xs (.int .u64) (some 2), .xs b64 (some 1), .xs b64 (some 1), .one (.nilsl), .one (.nilsl), .one (.nilsl)] (.own), .live [.xs b64 (some 1)] (.own)], dfr := [(55, [.ptr 0 0 false, .ptr 1 0 false])] } [.xs, .xs, .xs, .xs, .xs, .xs, .xs, .xs, .xs] y.2)
 | .inr y => K .normal (fSt { tmps := V :: V :: .sc (.ptr 0 0 false) :: .sc (.ptr 1 0 false) :: .sc (.ptr 2 0 false) :: pv 43 [], mem := [.live [.xs b64 (some 1), .xs b64 (some 1), .xs b64 (some 1), .xs (.int .u32) (some 1), .xs (.int .u32) (some 1), .xs (.int .u64) (some 2), .xs b64 (some 1), .xs b64 (some 1), .one (.nilsl), .one (.nilsl), .one (.nilsl)] (.own), .live [.xs b64 (some 1)] (.own), .live [.one (.sl 3 (some 7) none none 1)] (.own), .live [.xs b8 none] (.ro)], dfr := [(55, [.ptr 0 0 false, .ptr 1 0 false])] } [.xs, .xs, .xs, .xs, .xs, .xs, .xs, .xs, .xs, .nat, .nat, .nat, .xs] y)
theorem a7Q (N : Nat) : EntryOk p_msg_Get_E o0 N (F5 a2x (H9 N) a1n) (.seq (H4 8000007 d8) (z0 8000007 d8)) :=
 a8b (body := d8) (k := 7) (OkAll.nil) (by kernel_rfl) (fun x => by kernel_rfl) (fun β x K => by kernel_rfl)
noncomputable def a2w (N : Nat) : LT := upd (LT.nil) 8000007 (orE a0K (F5 a0K (N9 N) a3l) (orE Q7 (F5 Q7 (H6 N) a1j) (orE Q8 (F5 Q8 (H7 N) a1k) (orE Q9 (F5 Q9 (H8 N) a1l) (orE R0 (F5 R0 (x7 N) a1m) (F5 a2x (H9 N) a1n))))))
theorem a1o (N : Nat) : OkAll p_msg_Get_E o0 N (a2w N) (x9 d8) :=
 b7b (k := 7) (a := H4 8000007 d8) (b := z0 8000007 d8) (OkAll.nil) (by kernel_rfl) (((b0f N).or (((a7M N).or (((a7N N).or (((a7O N).or (((a7P N).or (a7Q N)))))))))))
noncomputable def a1i : Shape := mkS { tmps := V :: V :: .sc (.ptr 0 0 false) :: .sc (.ptr 1 0 false) :: .sc (.ptr 2 0 false) :: pv 43 [], mem := [.live [.xs b64 (some 1), .xs b64 (some 1), .xs b64 (some 1), .xs (.int .u32) (some 1), .xs (.int .u32) (some 1), .xs (.int .u64) (some 2), .xs b64 (some 1), .xs b64 (some 1), .one (.nilsl), .one (.nilsl), .one (.nilsl)] (.own), .live [.xs b64 (some 1)] (.own), .live [.one (.sl 3 (some 7) none none 1)] (.own), .live [.xs b8 none] (.ro)], dfr := [(55, [.ptr 0 0 false, .ptr 1 0 false])] } [.xs, .xs, .xs, .xs, .xs, .xs, .xs, .xs, .xs, .nat, .nat, .nat, .xs]
abbrev W23 : Type := (Int × List Int × List Int × List Int × List Int × List Int × List Int × List Int × List Int × List Int × Unit) ⊕ (List Int × List Int × List Int × List Int × List Int × List Int × List Int × List Int × List Int × Unit)
noncomputable def E5 (N : Nat) (β : Type) (x : W21) (ke : W23 → Option β) : Option β :=
 if (((x.2.2.2.2.2.2.2.2.2.1 : Nat) : Int) > (0:Int)) then
  ke (.inl ((List.getD (List.set [0] 0 (212:Int)) 0 0), x.1, x.2.1, x.2.2.1, x.2.2.2.1, x.2.2.2.2.1, x.2.2.2.2.2.1, x.2.2.2.2.2.2.1, x.2.2.2.2.2.2.2.1, x.2.2.2.2.2.2.2.2.1, ()))
 else
  (y9 (((List.getD x.1 0 0), (List.getD x.2.1 0 0), (List.getD x.2.2.1 0 0), (List.getD x.2.2.2.1 0 0), (List.getD x.2.2.2.2.1 0 0), (List.getD (List.take 1 x.2.2.2.2.2.1) 0 0), (List.getD (List.drop 1 x.2.2.2.2.2.1) 0 0), (List.getD x.2.2.2.2.2.2.1 0 0), (List.getD x.2.2.2.2.2.2.2.1 0 0), [], [], [], ()), ())).bind fun r79 => (
  if (r79 ≠ (0:Int)) then
   ke (.inl ((List.getD (List.set [0] 0 r79) 0 0), x.1, x.2.1, x.2.2.1, x.2.2.2.1, x.2.2.2.2.1, x.2.2.2.2.2.1, x.2.2.2.2.2.2.1, x.2.2.2.2.2.2.2.1, x.2.2.2.2.2.2.2.2.1, ()))
  else
   ke (.inr (x.1, x.2.1, x.2.2.1, x.2.2.2.1, x.2.2.2.2.1, x.2.2.2.2.2.1, x.2.2.2.2.2.2.1, x.2.2.2.2.2.2.2.1, (List.set x.2.2.2.2.2.2.2.2.1 0 (0:Int)), ())))
noncomputable def a0n : Go' W23 := fun y K => match y with
 | .inl y => K (.pan (.ifg 64 .i64) y.1) (fSt { tmps := V :: V :: .sc (.ptr 0 0 false) :: .sc (.ptr 1 0 false) :: pv 44 [], mem := [.live [.xs b64 (some 1), .xs b64 (some 1), .xs b64 (some 1), .xs (.int .u32) (some 1), .xs (.int .u32) (some 1), .xs (.int .u64) (some 2), .xs b64 (some 1), .xs b64 (some 1), .one (.nilsl), .one (.nilsl), .one (.nilsl)] (.own), .live [.xs b64 (some 1)] (.own)], dfr := [(55, [.ptr 0 0 false, .ptr 1 0 false])] } [.xs, .xs, .xs, .xs, .xs, .xs, .xs, .xs, .xs] y.2)
 | .inr y => K .ret (fSt { tmps := V :: V :: .sc (.ptr 0 0 false) :: .sc (.ptr 1 0 false) :: pv 44 [], mem := [.live [.xs b64 (some 1), .xs b64 (some 1), .xs b64 (some 1), .xs (.int .u32) (some 1), .xs (.int .u32) (some 1), .xs (.int .u64) (some 2), .xs b64 (some 1), .xs b64 (some 1), .one (.nilsl), .one (.nilsl), .one (.nilsl)] (.own), .live [.xs b64 (some 1)] (.own)], dfr := [(55, [.ptr 0 0 false, .ptr 1 0 false])] } [.xs, .xs, .xs, .xs, .xs, .xs, .xs, .xs, .xs] y)
theorem a6M (N : Nat) : EntryOk p_msg_Get_E o0 N (F5 a1i (E5 N) a0n) (.seq (H4 8000011 d8) (z0 8000011 d8)) :=
 a8b (body := d8) (k := 11) (a1o N) (by kernel_rfl) (fun x => by kernel_rfl) (fun β x K => by kernel_rfl)
noncomputable def a1h (N : Nat) : LT := upd (a2w N) 8000011 (orE U2 (F5 U2 (K6 N) a2v) (orE M5 (F5 M5 (E4 N) a0k) (orE M6 (F5 M6 (w6 N) a0l) (orE M7 (F5 M7 (w7 N) a0m) (F5 a1i (E5 N) a0n)))))
theorem a5D (N : Nat) : OkAll p_msg_Get_E o0 N (a1h N) (x9 d8) :=
 b7b (k := 11) (a := H4 8000011 d8) (b := z0 8000011 d8) (a1o N) (by kernel_rfl) (((a9c N).or (((a6J N).or (((a6K N).or (((a6L N).or (a6M N)))))))))
end Go.Ax.TryP
set_option linter.unusedVariables false
namespace Go.Ax.TryP
open Go.Proofs
noncomputable def b0e : Shape := mkS { tmps := .sc (.vec 2 none 1) :: V :: .sc (.ptr 0 0 false) :: .sc (.ptr 1 0 false) :: pv 44 [], mem := [.live [.xs b64 (some 1), .xs b64 (some 1), .xs b64 (some 1), .xs (.int .u32) (some 1), .xs (.int .u32) (some 1), .xs (.int .u64) (some 2), .xs b64 (some 1), .xs b64 (some 1), .one (.nilsl), .one (.nilsl), .one (.nilsl)] (.own), .live [.xs b64 (some 1)] (.own), .live [.xs b8 none] (.ro)], dfr := [(55, [.ptr 0 0 false, .ptr 1 0 false])] } [.nat, .xs, .xs, .xs, .xs, .xs, .xs, .xs, .xs, .xs, .nat, .xs]
abbrev W24 : Type := Nat × List Int × List Int × List Int × List Int × List Int × List Int × List Int × List Int × List Int × Nat × List Int × Unit
abbrev W25 : Type := (Int × List Int × List Int × List Int × List Int × List Int × List Int × List Int × List Int × List Int × Unit) ⊕ ((Int × List Int × List Int × List Int × List Int × List Int × List Int × List Int × List Int × Nat × List Int × Nat × List Int × Unit) ⊕ ((Int × List Int × List Int × List Int × List Int × List Int × List Int × List Int × List Int × Nat × Nat × List Int × Nat × List Int × Nat × List Int × Unit) ⊕ ((List Int × List Int × List Int × List Int × List Int × List Int × List Int × List Int × Nat × Nat × List Int × Nat × List Int × Nat × List Int × Unit) ⊕ ((Int × List Int × List Int × List Int × List Int × List Int × List Int × List Int × List Int × Nat × List Int × Nat × List Int × Unit) ⊕ ((Int × List Int × List Int × List Int × List Int × List Int × List Int × List Int × List Int × Nat × Nat × List Int × Nat × List Int × Nat × List Int × Unit) ⊕ ((List Int × List Int × List Int × List Int × List Int × List Int × List Int × List Int × Nat × Nat × List Int × Nat × List Int × Nat × List Int × Unit) ⊕ ((List Int × List Int × List Int × List Int × List Int × List Int × List Int × List Int × Nat × List Int × Nat × List Int × Unit) ⊕ ((Int × List Int × List Int × List Int × List Int × List Int × List Int × List Int × List Int × Nat × List Int × Nat × List Int × Unit) ⊕ ((List Int × List Int × List Int × List Int × List Int × List Int × List Int × List Int × Nat × List Int × Nat × List Int × Unit) ⊕ (List Int × List Int × List Int × List Int × List Int × List Int × List Int × List Int × List Int × Unit))))))))))
noncomputable def a0J (N : Nat) (β : Type) (x : W24) (ke : W25 → Option β) : Option β :=
 if (((x.1 : Nat) : Int) < (1:Int)) then
  ke (.inl ((List.getD (List.set [0] 0 (8:Int)) 0 0), x.2.1, x.2.2.1, x.2.2.2.1, x.2.2.2.2.1, x.2.2.2.2.2.1, x.2.2.2.2.2.2.1, x.2.2.2.2.2.2.2.1, x.2.2.2.2.2.2.2.2.1, x.2.2.2.2.2.2.2.2.2.1, ()))
 else
  if 0 ≤ (1:Int) then (
  if (1:Int) ≤ ((x.1 : Nat) : Int) then (
  if 0 ≤ (1:Int) then (
  if (1:Int) ≤ ((x.1 : Nat) : Int) then (
  (d7 ((List.take 1 (List.drop 0 x.2.2.2.2.2.2.2.2.2.2.2.1)), ())).bind fun r1 => (
  (a07 ((List.getD (List.set x.2.1 0 (IntKind.i64.wrap r1.1)) 0 0), ())).bind fun r2 => (
  if (r2 = (⟨#[]⟩ : ByteArray)) then
   ke (.inl ((List.getD (List.set [0] 0 (211:Int)) 0 0), (List.set x.2.1 0 (IntKind.i64.wrap r1.1)), x.2.2.1, x.2.2.2.1, x.2.2.2.2.1, x.2.2.2.2.2.1, x.2.2.2.2.2.2.1, x.2.2.2.2.2.2.2.1, x.2.2.2.2.2.2.2.2.1, x.2.2.2.2.2.2.2.2.2.1, ()))
  else
   if ((List.getD (List.set x.2.1 0 (IntKind.i64.wrap r1.1)) 0 0) = (1:Int)) then
    if (3 + 1) * 16 ≤ 140737488355328 then (
    if (4 + 2) * 16 ≤ 140737488355328 then (
    if (6 + 1) * 16 ≤ 140737488355328 then (
    if (7 + 1) * 16 ≤ 140737488355328 then (
    N9 N _ ((List.set x.2.1 0 (IntKind.i64.wrap r1.1)), x.2.2.1, x.2.2.2.1, x.2.2.2.2.1, x.2.2.2.2.2.1, x.2.2.2.2.2.2.1, x.2.2.2.2.2.2.2.1, x.2.2.2.2.2.2.2.2.1, x.2.2.2.2.2.2.2.2.2.1, (x.1 - 1), (x.1 - 1), (List.getD (List.set [0] 0 (1024:Int)) 0 0), (List.getD (List.set [0] 0 (6446:Int)) 0 0), x.2.2.2.2.2.2.2.2.2.2.1, x.2.2.2.2.2.2.2.2.2.2.2.1, ()) fun y => (match y with
    | .inl y13 => (
     ke (.inl (y13.1, y13.2.1, y13.2.2.1, y13.2.2.2.1, y13.2.2.2.2.1, y13.2.2.2.2.2.1, y13.2.2.2.2.2.2.1, y13.2.2.2.2.2.2.2.1, y13.2.2.2.2.2.2.2.2.1, y13.2.2.2.2.2.2.2.2.2.1, ())))
    | .inr (.inl y14) => (
     ke (.inr (.inl (y14.1, y14.2.1, y14.2.2.1, y14.2.2.2.1, y14.2.2.2.2.1, y14.2.2.2.2.2.1, y14.2.2.2.2.2.2.1, y14.2.2.2.2.2.2.2.1, y14.2.2.2.2.2.2.2.2.1, y14.2.2.2.2.2.2.2.2.2.1, y14.2.2.2.2.2.2.2.2.2.2.1, y14.2.2.2.2.2.2.2.2.2.2.2.1, y14.2.2.2.2.2.2.2.2.2.2.2.2.1, ()))))
    | .inr (.inr y15) => (
     K6 N _ (y15.1, y15.2.1, y15.2.2.1, y15.2.2.2.1, y15.2.2.2.2.1, y15.2.2.2.2.2.1, y15.2.2.2.2.2.2.1, y15.2.2.2.2.2.2.2.1, y15.2.2.2.2.2.2.2.2.1, y15.2.2.2.2.2.2.2.2.2.1, y15.2.2.2.2.2.2.2.2.2.2.1, y15.2.2.2.2.2.2.2.2.2.2.2.1, y15.2.2.2.2.2.2.2.2.2.2.2.2.1, y15.2.2.2.2.2.2.2.2.2.2.2.2.2.1, y15.2.2.2.2.2.2.2.2.2.2.2.2.2.2.1, y15.2.2.2.2.2.2.2.2.2.2.2.2.2.2.2.1, y15.2.2.2.2.2.2.2.2.2.2.2.2.2.2.2.2.1, y15.2.2.2.2.2.2.2.2.2.2.2.2.2.2.2.2.2.1, y15.2.2.2.2.2.2.2.2.2.2.2.2.2.2.2.2.2.2.1, y15.2.2.2.2.2.2.2.2.2.2.2.2.2.2.2.2.2.2.2.1, ()) fun y => (match y with
     | .inl y17 => (
      ke (.inr (.inr (.inl (y17.1, y17.2.1, y17.2.2.1, y17.2.2.2.1, y17.2.2.2.2.1, y17.2.2.2.2.2.1, y17.2.2.2.2.2.2.1, y17.2.2.2.2.2.2.2.1, y17.2.2.2.2.2.2.2.2.1, y17.2.2.2.2.2.2.2.2.2.1, y17.2.2.2.2.2.2.2.2.2.2.1, y17.2.2.2.2.2.2.2.2.2.2.2.1, y17.2.2.2.2.2.2.2.2.2.2.2.2.1, y17.2.2.2.2.2.2.2.2.2.2.2.2.2.1, y17.2.2.2.2.2.2.2.2.2.2.2.2.2.2.1, y17.2.2.2.2.2.2.2.2.2.2.2.2.2.2.2.1, ())))))
     | .inr y18 => (
      ke (.inr (.inr (.inr (.inl (y18.1, y18.2.1, y18.2.2.1, y18.2.2.2.1, y18.2.2.2.2.1, y18.2.2.2.2.2.1, y18.2.2.2.2.2.2.1, y18.2.2.2.2.2.2.2.1, y18.2.2.2.2.2.2.2.2.1, y18.2.2.2.2.2.2.2.2.2.1, y18.2.2.2.2.2.2.2.2.2.2.1, y18.2.2.2.2.2.2.2.2.2.2.2.1, y18.2.2.2.2.2.2.2.2.2.2.2.2.1, y18.2.2.2.2.2.2.2.2.2.2.2.2.2.1, y18.2.2.2.2.2.2.2.2.2.2.2.2.2.2.1, ())))))))))) else none) else none) else none) else none
   else
    if ((List.getD (List.set x.2.1 0 (IntKind.i64.wrap r1.1)) 0 0) = (2:Int)) then
     if (3 + 1) * 16 ≤ 140737488355328 then (
     if (4 + 2) * 16 ≤ 140737488355328 then (
     if (6 + 1) * 16 ≤ 140737488355328 then (
     if (7 + 1) * 16 ≤ 140737488355328 then (
     H6 N _ ((List.set x.2.1 0 (IntKind.i64.wrap r1.1)), x.2.2.1, x.2.2.2.1, x.2.2.2.2.1, x.2.2.2.2.2.1, x.2.2.2.2.2.2.1, x.2.2.2.2.2.2.2.1, x.2.2.2.2.2.2.2.2.1, x.2.2.2.2.2.2.2.2.2.1, (x.1 - 1), (x.1 - 1), (List.getD (List.set [0] 0 (6446:Int)) 0 0), (List.getD (List.set [0] 0 (3309:Int)) 0 0), x.2.2.2.2.2.2.2.2.2.2.1, x.2.2.2.2.2.2.2.2.2.2.2.1, ()) fun y => (match y with
     | .inl y29 => (
      ke (.inl (y29.1, y29.2.1, y29.2.2.1, y29.2.2.2.1, y29.2.2.2.2.1, y29.2.2.2.2.2.1, y29.2.2.2.2.2.2.1, y29.2.2.2.2.2.2.2.1, y29.2.2.2.2.2.2.2.2.1, y29.2.2.2.2.2.2.2.2.2.1, ())))
     | .inr (.inl y30) => (
      ke (.inr (.inr (.inr (.inr (.inl (y30.1, y30.2.1, y30.2.2.1, y30.2.2.2.1, y30.2.2.2.2.1, y30.2.2.2.2.2.1, y30.2.2.2.2.2.2.1, y30.2.2.2.2.2.2.2.1, y30.2.2.2.2.2.2.2.2.1, y30.2.2.2.2.2.2.2.2.2.1, y30.2.2.2.2.2.2.2.2.2.2.1, y30.2.2.2.2.2.2.2.2.2.2.2.1, y30.2.2.2.2.2.2.2.2.2.2.2.2.1, ())))))))
     | .inr (.inr y31) => (
      E4 N _ (y31.1, y31.2.1, y31.2.2.1, y31.2.2.2.1, y31.2.2.2.2.1, y31.2.2.2.2.2.1, y31.2.2.2.2.2.2.1, y31.2.2.2.2.2.2.2.1, y31.2.2.2.2.2.2.2.2.1, y31.2.2.2.2.2.2.2.2.2.1, y31.2.2.2.2.2.2.2.2.2.2.1, y31.2.2.2.2.2.2.2.2.2.2.2.1, y31.2.2.2.2.2.2.2.2.2.2.2.2.1, y31.2.2.2.2.2.2.2.2.2.2.2.2.2.1, y31.2.2.2.2.2.2.2.2.2.2.2.2.2.2.1, y31.2.2.2.2.2.2.2.2.2.2.2.2.2.2.2.1, y31.2.2.2.2.2.2.2.2.2.2.2.2.2.2.2.2.1, y31.2.2.2.2.2.2.2.2.2.2.2.2.2.2.2.2.2.1, y31.2.2.2.2.2.2.2.2.2.2.2.2.2.2.2.2.2.2.1, y31.2.2.2.2.2.2.2.2.2.2.2.2.2.2.2.2.2.2.2.1, ()) fun y => (match y with
      | .inl y33 => (
       ke (.inr (.inr (.inr (.inr (.inr (.inl (y33.1, y33.2.1, y33.2.2.1, y33.2.2.2.1, y33.2.2.2.2.1, y33.2.2.2.2.2.1, y33.2.2.2.2.2.2.1, y33.2.2.2.2.2.2.2.1, y33.2.2.2.2.2.2.2.2.1, y33.2.2.2.2.2.2.2.2.2.1, y33.2.2.2.2.2.2.2.2.2.2.1, y33.2.2.2.2.2.2.2.2.2.2.2.1, y33.2.2.2.2.2.2.2.2.2.2.2.2.1, y33.2.2.2.2.2.2.2.2.2.2.2.2.2.1, y33.2.2.2.2.2.2.2.2.2.2.2.2.2.2.1, y33.2.2.2.2.2.2.2.2.2.2.2.2.2.2.2.1, ()))))))))
      | .inr y34 => (
       ke (.inr (.inr (.inr (.inr (.inr (.inr (.inl (y34.1, y34.2.1, y34.2.2.1, y34.2.2.2.1, y34.2.2.2.2.1, y34.2.2.2.2.2.1, y34.2.2.2.2.2.2.1, y34.2.2.2.2.2.2.2.1, y34.2.2.2.2.2.2.2.2.1, y34.2.2.2.2.2.2.2.2.2.1, y34.2.2.2.2.2.2.2.2.2.2.1, y34.2.2.2.2.2.2.2.2.2.2.2.1, y34.2.2.2.2.2.2.2.2.2.2.2.2.1, y34.2.2.2.2.2.2.2.2.2.2.2.2.2.1, y34.2.2.2.2.2.2.2.2.2.2.2.2.2.2.1, ()))))))))))))) else none) else none) else none) else none
    else
     if ((List.getD (List.set x.2.1 0 (IntKind.i64.wrap r1.1)) 0 0) = (3:Int)) then
      if (3 + 1) * 16 ≤ 140737488355328 then (
      if (4 + 1) * 16 ≤ 140737488355328 then (
      if (5 + 1) * 16 ≤ 140737488355328 then (
      H7 N _ ((List.set x.2.1 0 (IntKind.i64.wrap r1.1)), x.2.2.1, x.2.2.2.1, x.2.2.2.2.1, x.2.2.2.2.2.1, x.2.2.2.2.2.2.1, x.2.2.2.2.2.2.2.1, x.2.2.2.2.2.2.2.2.1, x.2.2.2.2.2.2.2.2.2.1, (x.1 - 1), (x.1 - 1), (List.getD (List.set [0] 0 (1024:Int)) 0 0), x.2.2.2.2.2.2.2.2.2.2.1, x.2.2.2.2.2.2.2.2.2.2.2.1, ()) fun y => (match y with
      | .inl y42 => (
       ke (.inl (y42.1, y42.2.1, y42.2.2.1, y42.2.2.2.1, y42.2.2.2.2.1, y42.2.2.2.2.2.1, y42.2.2.2.2.2.2.1, y42.2.2.2.2.2.2.2.1, y42.2.2.2.2.2.2.2.2.1, y42.2.2.2.2.2.2.2.2.2.1, ())))
      | .inr y43 => (
       w6 N _ (y43.1, y43.2.1, y43.2.2.1, y43.2.2.2.1, y43.2.2.2.2.1, y43.2.2.2.2.2.1, y43.2.2.2.2.2.2.1, y43.2.2.2.2.2.2.2.1, y43.2.2.2.2.2.2.2.2.1, y43.2.2.2.2.2.2.2.2.2.1, y43.2.2.2.2.2.2.2.2.2.2.1, y43.2.2.2.2.2.2.2.2.2.2.2.1, y43.2.2.2.2.2.2.2.2.2.2.2.2.1, y43.2.2.2.2.2.2.2.2.2.2.2.2.2.1, y43.2.2.2.2.2.2.2.2.2.2.2.2.2.2.1, y43.2.2.2.2.2.2.2.2.2.2.2.2.2.2.2.1, y43.2.2.2.2.2.2.2.2.2.2.2.2.2.2.2.2.1, ()) fun y => (match y with
       | .inl y45 => (
        ke (.inr (.inl (y45.1, y45.2.1, y45.2.2.1, y45.2.2.2.1, y45.2.2.2.2.1, y45.2.2.2.2.2.1, y45.2.2.2.2.2.2.1, y45.2.2.2.2.2.2.2.1, y45.2.2.2.2.2.2.2.2.1, y45.2.2.2.2.2.2.2.2.2.1, y45.2.2.2.2.2.2.2.2.2.2.1, y45.2.2.2.2.2.2.2.2.2.2.2.1, y45.2.2.2.2.2.2.2.2.2.2.2.2.1, ()))))
       | .inr y46 => (
        ke (.inr (.inr (.inr (.inr (.inr (.inr (.inr (.inl (y46.1, y46.2.1, y46.2.2.1, y46.2.2.2.1, y46.2.2.2.2.1, y46.2.2.2.2.2.1, y46.2.2.2.2.2.2.1, y46.2.2.2.2.2.2.2.1, y46.2.2.2.2.2.2.2.2.1, y46.2.2.2.2.2.2.2.2.2.1, y46.2.2.2.2.2.2.2.2.2.2.1, y46.2.2.2.2.2.2.2.2.2.2.2.1, ())))))))))))))) else none) else none) else none
     else
      if ((List.getD (List.set x.2.1 0 (IntKind.i64.wrap r1.1)) 0 0) = (4:Int)) then
       if (3 + 1) * 16 ≤ 140737488355328 then (
       if (4 + 1) * 16 ≤ 140737488355328 then (
       H8 N _ ((List.set x.2.1 0 (IntKind.i64.wrap r1.1)), x.2.2.1, x.2.2.2.1, x.2.2.2.2.1, x.2.2.2.2.2.1, x.2.2.2.2.2.2.1, x.2.2.2.2.2.2.2.1, x.2.2.2.2.2.2.2.2.1, x.2.2.2.2.2.2.2.2.2.1, (x.1 - 1), (x.1 - 1), (List.getD (List.set [0] 0 (1024:Int)) 0 0), x.2.2.2.2.2.2.2.2.2.2.1, x.2.2.2.2.2.2.2.2.2.2.2.1, ()) fun y => (match y with
       | .inl y53 => (
        ke (.inl (y53.1, y53.2.1, y53.2.2.1, y53.2.2.2.1, y53.2.2.2.2.1, y53.2.2.2.2.2.1, y53.2.2.2.2.2.2.1, y53.2.2.2.2.2.2.2.1, y53.2.2.2.2.2.2.2.2.1, y53.2.2.2.2.2.2.2.2.2.1, ())))
       | .inr y54 => (
        w6 N _ (y54.1, y54.2.1, y54.2.2.1, y54.2.2.2.1, y54.2.2.2.2.1, y54.2.2.2.2.2.1, y54.2.2.2.2.2.2.1, y54.2.2.2.2.2.2.2.1, y54.2.2.2.2.2.2.2.2.1, y54.2.2.2.2.2.2.2.2.2.1, y54.2.2.2.2.2.2.2.2.2.2.1, y54.2.2.2.2.2.2.2.2.2.2.2.1, y54.2.2.2.2.2.2.2.2.2.2.2.2.1, y54.2.2.2.2.2.2.2.2.2.2.2.2.2.1, y54.2.2.2.2.2.2.2.2.2.2.2.2.2.2.1, y54.2.2.2.2.2.2.2.2.2.2.2.2.2.2.2.1, y54.2.2.2.2.2.2.2.2.2.2.2.2.2.2.2.2.1, ()) fun y => (match y with
        | .inl y55 => (
         ke (.inr (.inl (y55.1, y55.2.1, y55.2.2.1, y55.2.2.2.1, y55.2.2.2.2.1, y55.2.2.2.2.2.1, y55.2.2.2.2.2.2.1, y55.2.2.2.2.2.2.2.1, y55.2.2.2.2.2.2.2.2.1, y55.2.2.2.2.2.2.2.2.2.1, y55.2.2.2.2.2.2.2.2.2.2.1, y55.2.2.2.2.2.2.2.2.2.2.2.1, y55.2.2.2.2.2.2.2.2.2.2.2.2.1, ()))))
        | .inr y56 => (
         ke (.inr (.inr (.inr (.inr (.inr (.inr (.inr (.inl (y56.1, y56.2.1, y56.2.2.1, y56.2.2.2.1, y56.2.2.2.2.1, y56.2.2.2.2.2.1, y56.2.2.2.2.2.2.1, y56.2.2.2.2.2.2.2.1, y56.2.2.2.2.2.2.2.2.1, y56.2.2.2.2.2.2.2.2.2.1, y56.2.2.2.2.2.2.2.2.2.2.1, y56.2.2.2.2.2.2.2.2.2.2.2.1, ())))))))))))))) else none) else none
      else
       if ((List.getD (List.set x.2.1 0 (IntKind.i64.wrap r1.1)) 0 0) = (5:Int)) then
        if (3 + 1) * 16 ≤ 140737488355328 then (
        if (4 + 2) * 16 ≤ 140737488355328 then (
        if (6 + 1) * 16 ≤ 140737488355328 then (
        x7 N _ ((List.set x.2.1 0 (IntKind.i64.wrap r1.1)), x.2.2.1, x.2.2.2.1, x.2.2.2.2.1, x.2.2.2.2.2.1, x.2.2.2.2.2.2.1, x.2.2.2.2.2.2.2.1, x.2.2.2.2.2.2.2.2.1, x.2.2.2.2.2.2.2.2.2.1, (x.1 - 1), (x.1 - 1), (List.getD (List.set [0] 0 (3309:Int)) 0 0), x.2.2.2.2.2.2.2.2.2.2.1, x.2.2.2.2.2.2.2.2.2.2.2.1, ()) fun y => (match y with
        | .inl y65 => (
         ke (.inl (y65.1, y65.2.1, y65.2.2.1, y65.2.2.2.1, y65.2.2.2.2.1, y65.2.2.2.2.2.1, y65.2.2.2.2.2.2.1, y65.2.2.2.2.2.2.2.1, y65.2.2.2.2.2.2.2.2.1, y65.2.2.2.2.2.2.2.2.2.1, ())))
        | .inr y66 => (
         w7 N _ (y66.1, y66.2.1, y66.2.2.1, y66.2.2.2.1, y66.2.2.2.2.1, y66.2.2.2.2.2.1, y66.2.2.2.2.2.2.1, y66.2.2.2.2.2.2.2.1, y66.2.2.2.2.2.2.2.2.1, y66.2.2.2.2.2.2.2.2.2.1, y66.2.2.2.2.2.2.2.2.2.2.1, y66.2.2.2.2.2.2.2.2.2.2.2.1, y66.2.2.2.2.2.2.2.2.2.2.2.2.1, y66.2.2.2.2.2.2.2.2.2.2.2.2.2.1, y66.2.2.2.2.2.2.2.2.2.2.2.2.2.2.1, y66.2.2.2.2.2.2.2.2.2.2.2.2.2.2.2.1, y66.2.2.2.2.2.2.2.2.2.2.2.2.2.2.2.2.1, ()) fun y => (match y with
         | .inl y68 => (
          ke (.inr (.inr (.inr (.inr (.inr (.inr (.inr (.inr (.inl (y68.1, y68.2.1, y68.2.2.1, y68.2.2.2.1, y68.2.2.2.2.1, y68.2.2.2.2.2.1, y68.2.2.2.2.2.2.1, y68.2.2.2.2.2.2.2.1, y68.2.2.2.2.2.2.2.2.1, y68.2.2.2.2.2.2.2.2.2.1, y68.2.2.2.2.2.2.2.2.2.2.1, y68.2.2.2.2.2.2.2.2.2.2.2.1, y68.2.2.2.2.2.2.2.2.2.2.2.2.1, ())))))))))))
         | .inr y69 => (
          ke (.inr (.inr (.inr (.inr (.inr (.inr (.inr (.inr (.inr (.inl (y69.1, y69.2.1, y69.2.2.1, y69.2.2.2.1, y69.2.2.2.2.1, y69.2.2.2.2.2.1, y69.2.2.2.2.2.2.1, y69.2.2.2.2.2.2.2.1, y69.2.2.2.2.2.2.2.2.1, y69.2.2.2.2.2.2.2.2.2.1, y69.2.2.2.2.2.2.2.2.2.2.1, y69.2.2.2.2.2.2.2.2.2.2.2.1, ())))))))))))))))) else none) else none) else none
       else
        if ((List.getD (List.set x.2.1 0 (IntKind.i64.wrap r1.1)) 0 0) = (6:Int)) then
         if (3 + 1) * 16 ≤ 140737488355328 then (
         if (4 + 2) * 16 ≤ 140737488355328 then (
         if (6 + 1) * 16 ≤ 140737488355328 then (
         x7 N _ ((List.set x.2.1 0 (IntKind.i64.wrap r1.1)), x.2.2.1, x.2.2.2.1, x.2.2.2.2.1, x.2.2.2.2.2.1, x.2.2.2.2.2.2.1, x.2.2.2.2.2.2.2.1, x.2.2.2.2.2.2.2.2.1, x.2.2.2.2.2.2.2.2.2.1, (x.1 - 1), (x.1 - 1), (List.getD (List.set [0] 0 (3309:Int)) 0 0), x.2.2.2.2.2.2.2.2.2.2.1, x.2.2.2.2.2.2.2.2.2.2.2.1, ()) fun y => (match y with
         | .inl y70 => (
          ke (.inl (y70.1, y70.2.1, y70.2.2.1, y70.2.2.2.1, y70.2.2.2.2.1, y70.2.2.2.2.2.1, y70.2.2.2.2.2.2.1, y70.2.2.2.2.2.2.2.1, y70.2.2.2.2.2.2.2.2.1, y70.2.2.2.2.2.2.2.2.2.1, ())))
         | .inr y71 => (
          w7 N _ (y71.1, y71.2.1, y71.2.2.1, y71.2.2.2.1, y71.2.2.2.2.1, y71.2.2.2.2.2.1, y71.2.2.2.2.2.2.1, y71.2.2.2.2.2.2.2.1, y71.2.2.2.2.2.2.2.2.1, y71.2.2.2.2.2.2.2.2.2.1, y71.2.2.2.2.2.2.2.2.2.2.1, y71.2.2.2.2.2.2.2.2.2.2.2.1, y71.2.2.2.2.2.2.2.2.2.2.2.2.1, y71.2.2.2.2.2.2.2.2.2.2.2.2.2.1, y71.2.2.2.2.2.2.2.2.2.2.2.2.2.2.1, y71.2.2.2.2.2.2.2.2.2.2.2.2.2.2.2.1, y71.2.2.2.2.2.2.2.2.2.2.2.2.2.2.2.2.1, ()) fun y => (match y with
          | .inl y72 => (
           ke (.inr (.inr (.inr (.inr (.inr (.inr (.inr (.inr (.inl (y72.1, y72.2.1, y72.2.2.1, y72.2.2.2.1, y72.2.2.2.2.1, y72.2.2.2.2.2.1, y72.2.2.2.2.2.2.1, y72.2.2.2.2.2.2.2.1, y72.2.2.2.2.2.2.2.2.1, y72.2.2.2.2.2.2.2.2.2.1, y72.2.2.2.2.2.2.2.2.2.2.1, y72.2.2.2.2.2.2.2.2.2.2.2.1, y72.2.2.2.2.2.2.2.2.2.2.2.2.1, ())))))))))))
          | .inr y73 => (
           ke (.inr (.inr (.inr (.inr (.inr (.inr (.inr (.inr (.inr (.inl (y73.1, y73.2.1, y73.2.2.1, y73.2.2.2.1, y73.2.2.2.2.1, y73.2.2.2.2.2.1, y73.2.2.2.2.2.2.1, y73.2.2.2.2.2.2.2.1, y73.2.2.2.2.2.2.2.2.1, y73.2.2.2.2.2.2.2.2.2.1, y73.2.2.2.2.2.2.2.2.2.2.1, y73.2.2.2.2.2.2.2.2.2.2.2.1, ())))))))))))))))) else none) else none) else none
        else
         H9 N _ ((List.set x.2.1 0 (IntKind.i64.wrap r1.1)), x.2.2.1, x.2.2.2.1, x.2.2.2.2.1, x.2.2.2.2.2.1, x.2.2.2.2.2.2.1, x.2.2.2.2.2.2.2.1, x.2.2.2.2.2.2.2.2.1, x.2.2.2.2.2.2.2.2.2.1, (x.1 - 1), (x.1 - 1), x.2.2.2.2.2.2.2.2.2.2.1, x.2.2.2.2.2.2.2.2.2.2.2.1, ()) fun y => (match y with
         | .inl y77 => (
          ke (.inl (y77.1, y77.2.1, y77.2.2.1, y77.2.2.2.1, y77.2.2.2.2.1, y77.2.2.2.2.2.1, y77.2.2.2.2.2.2.1, y77.2.2.2.2.2.2.2.1, y77.2.2.2.2.2.2.2.2.1, y77.2.2.2.2.2.2.2.2.2.1, ())))
         | .inr y78 => (
          E5 N _ (y78.1, y78.2.1, y78.2.2.1, y78.2.2.2.1, y78.2.2.2.2.1, y78.2.2.2.2.2.1, y78.2.2.2.2.2.2.1, y78.2.2.2.2.2.2.2.1, y78.2.2.2.2.2.2.2.2.1, y78.2.2.2.2.2.2.2.2.2.1, y78.2.2.2.2.2.2.2.2.2.2.1, y78.2.2.2.2.2.2.2.2.2.2.2.1, y78.2.2.2.2.2.2.2.2.2.2.2.2.1, ()) fun y => (match y with
          | .inl y80 => (
           ke (.inl (y80.1, y80.2.1, y80.2.2.1, y80.2.2.2.1, y80.2.2.2.2.1, y80.2.2.2.2.2.1, y80.2.2.2.2.2.2.1, y80.2.2.2.2.2.2.2.1, y80.2.2.2.2.2.2.2.2.1, y80.2.2.2.2.2.2.2.2.2.1, ())))
          | .inr y81 => (
           ke (.inr (.inr (.inr (.inr (.inr (.inr (.inr (.inr (.inr (.inr (y81.1, y81.2.1, y81.2.2.1, y81.2.2.2.1, y81.2.2.2.2.1, y81.2.2.2.2.2.1, y81.2.2.2.2.2.2.1, y81.2.2.2.2.2.2.2.1, y81.2.2.2.2.2.2.2.2.1, ())))))))))))))))))) else none) else none) else none) else none
noncomputable def a9d : Go' W25 := fun y K => match y with
 | .inl y => K (.pan (.ifg 64 .i64) y.1) (fSt { tmps := V :: V :: .sc (.ptr 0 0 false) :: .sc (.ptr 1 0 false) :: pv 44 [], mem := [.live [.xs b64 (some 1), .xs b64 (some 1), .xs b64 (some 1), .xs (.int .u32) (some 1), .xs (.int .u32) (some 1), .xs (.int .u64) (some 2), .xs b64 (some 1), .xs b64 (some 1), .one (.nilsl), .one (.nilsl), .one (.nilsl)] (.own), .live [.xs b64 (some 1)] (.own)], dfr := [(55, [.ptr 0 0 false, .ptr 1 0 false])] } [.xs, .xs, .xs, .xs, .xs, .xs, .xs, .xs, .xs] y.2)
 | .inr (.inl y) => K (.pan (.ifg 64 .i64) y.1) (fSt { tmps := V :: V :: .sc (.ptr 0 0 false) :: .sc (.ptr 1 0 false) :: pv 44 [], mem := [.live [.xs b64 (some 1), .xs b64 (some 1), .xs b64 (some 1), .xs (.int .u32) (some 1), .xs (.int .u32) (some 1), .xs (.int .u64) (some 2), .xs b64 (some 1), .xs b64 (some 1), .one (.vec 2 none 1), .one (.nilsl), .one (.nilsl)] (.own), .live [.xs b64 (some 1)] (.own), .live [.xs b8 none] (.own)], dfr := [(55, [.ptr 0 0 false, .ptr 1 0 false])] } [.xs, .xs, .xs, .xs, .xs, .xs, .xs, .xs, .nat, .xs, .nat, .xs] y.2)
 | .inr (.inr (.inl y)) => K (.pan (.ifg 64 .i64) y.1) (fSt { tmps := V :: V :: .sc (.ptr 0 0 false) :: .sc (.ptr 1 0 false) :: pv 44 [], mem := [.live [.xs b64 (some 1), .xs b64 (some 1), .xs b64 (some 1), .xs (.int .u32) (some 1), .xs (.int .u32) (some 1), .xs (.int .u64) (some 2), .xs b64 (some 1), .xs b64 (some 1), .one (.vec 2 none 1), .one (.vec 3 none 1), .one (.nilsl)] (.own), .live [.xs b64 (some 1)] (.own), .live [.xs b8 none] (.own), .live [.xs b8 none] (.own)], dfr := [(55, [.ptr 0 0 false, .ptr 1 0 false])] } [.xs, .xs, .xs, .xs, .xs, .xs, .xs, .xs, .nat, .nat, .xs, .nat, .xs, .nat, .xs] y.2)
 | .inr (.inr (.inr (.inl y))) => K .ret (fSt { tmps := V :: V :: .sc (.ptr 0 0 false) :: .sc (.ptr 1 0 false) :: pv 44 [], mem := [.live [.xs b64 (some 1), .xs b64 (some 1), .xs b64 (some 1), .xs (.int .u32) (some 1), .xs (.int .u32) (some 1), .xs (.int .u64) (some 2), .xs b64 (some 1), .xs b64 (some 1), .one (.vec 2 none 1), .one (.vec 3 none 1), .one (.nilsl)] (.own), .live [.xs b64 (some 1)] (.own), .live [.xs b8 none] (.own), .live [.xs b8 none] (.own)], dfr := [(55, [.ptr 0 0 false, .ptr 1 0 false])] } [.xs, .xs, .xs, .xs, .xs, .xs, .xs, .xs, .nat, .nat, .xs, .nat, .xs, .nat, .xs] y)
 | .inr (.inr (.inr (.inr (.inl y)))) => K (.pan (.ifg 64 .i64) y.1) (fSt { tmps := V :: V :: .sc (.ptr 0 0 false) :: .sc (.ptr 1 0 false) :: pv 44 [], mem := [.live [.xs b64 (some 1), .xs b64 (some 1), .xs b64 (some 1), .xs (.int .u32) (some 1), .xs (.int .u32) (some 1), .xs (.int .u64) (some 2), .xs b64 (some 1), .xs b64 (some 1), .one (.nilsl), .one (.vec 2 none 1), .one (.nilsl)] (.own), .live [.xs b64 (some 1)] (.own), .live [.xs b8 none] (.own)], dfr := [(55, [.ptr 0 0 false, .ptr 1 0 false])] } [.xs, .xs, .xs, .xs, .xs, .xs, .xs, .xs, .nat, .xs, .nat, .xs] y.2)
 | .inr (.inr (.inr (.inr (.inr (.inl y))))) => K (.pan (.ifg 64 .i64) y.1) (fSt { tmps := V :: V :: .sc (.ptr 0 0 false) :: .sc (.ptr 1 0 false) :: pv 44 [], mem := [.live [.xs b64 (some 1), .xs b64 (some 1), .xs b64 (some 1), .xs (.int .u32) (some 1), .xs (.int .u32) (some 1), .xs (.int .u64) (some 2), .xs b64 (some 1), .xs b64 (some 1), .one (.nilsl), .one (.vec 2 none 1), .one (.vec 3 none 1)] (.own), .live [.xs b64 (some 1)] (.own), .live [.xs b8 none] (.own), .live [.xs b8 none] (.own)], dfr := [(55, [.ptr 0 0 false, .ptr 1 0 false])] } [.xs, .xs, .xs, .xs, .xs, .xs, .xs, .xs, .nat, .nat, .xs, .nat, .xs, .nat, .xs] y.2)
 | .inr (.inr (.inr (.inr (.inr (.inr (.inl y)))))) => K .ret (fSt { tmps := V :: V :: .sc (.ptr 0 0 false) :: .sc (.ptr 1 0 false) :: pv 44 [], mem := [.live [.xs b64 (some 1), .xs b64 (some 1), .xs b64 (some 1), .xs (.int .u32) (some 1), .xs (.int .u32) (some 1), .xs (.int .u64) (some 2), .xs b64 (some 1), .xs b64 (some 1), .one (.nilsl), .one (.vec 2 none 1), .one (.vec 3 none 1)] (.own), .live [.xs b64 (some 1)] (.own), .live [.xs b8 none] (.own), .live [.xs b8 none] (.own)], dfr := [(55, [.ptr 0 0 false, .ptr 1 0 false])] } [.xs, .xs, .xs, .xs, .xs, .xs, .xs, .xs, .nat, .nat, .xs, .nat, .xs, .nat, .xs] y)
 | .inr (.inr (.inr (.inr (.inr (.inr (.inr (.inl y))))))) => K .ret (fSt { tmps := V :: V :: .sc (.ptr 0 0 false) :: .sc (.ptr 1 0 false) :: pv 44 [], mem := [.live [.xs b64 (some 1), .xs b64 (some 1), .xs b64 (some 1), .xs (.int .u32) (some 1), .xs (.int .u32) (some 1), .xs (.int .u64) (some 2), .xs b64 (some 1), .xs b64 (some 1), .one (.vec 2 none 1), .one (.nilsl), .one (.nilsl)] (.own), .live [.xs b64 (some 1)] (.own), .live [.xs b8 none] (.own)], dfr := [(55, [.ptr 0 0 false, .ptr 1 0 false])] } [.xs, .xs, .xs, .xs, .xs, .xs, .xs, .xs, .nat, .xs, .nat, .xs] y)
 | .inr (.inr (.inr (.inr (.inr (.inr (.inr (.inr (.inl y)))))))) => K (.pan (.ifg 64 .i64) y.1) (fSt { tmps := V :: V :: .sc (.ptr 0 0 false) :: .sc (.ptr 1 0 false) :: pv 44 [], mem := [.live [.xs b64 (some 1), .xs b64 (some 1), .xs b64 (some 1), .xs (.int .u32) (some 1), .xs (.int .u32) (some 1), .xs (.int .u64) (some 2), .xs b64 (some 1), .xs b64 (some 1), .one (.nilsl), .one (.nilsl), .one (.vec 2 none 1)] (.own), .live [.xs b64 (some 1)] (.own), .live [.xs b8 none] (.own)], dfr := [(55, [.ptr 0 0 false, .ptr 1 0 false])] } [.xs, .xs, .xs, .xs, .xs, .xs, .xs, .xs, .nat, .xs, .nat, .xs] y.2)
 | .inr (.inr (.inr (.inr (.inr (.inr (.inr (.inr (.inr (.inl y))))))))) => K .ret (fSt { tmps := V :: V :: .sc (.ptr 0 0 false) :: .sc (.ptr 1 0 false) :: pv 44 [], mem := [.live [.xs b64 (some 1), .xs b64 (some 1), .xs b64 (some 1), .xs (.int .u32) (some 1), .xs (.int .u32) (some 1), .xs (.int .u64) (some 2), .xs b64 (some 1), .xs b64 (some 1), .one (.nilsl), .one (.nilsl), .one (.vec 2 none 1)] (.own), .live [.xs b64 (some 1)] (.own), .live [.xs b8 none] (.own)], dfr := [(55, [.ptr 0 0 false, .ptr 1 0 false])] } [.xs, .xs, .xs, .xs, .xs, .xs, .xs, .xs, .nat, .xs, .nat, .xs] y)
 | .inr (.inr (.inr (.inr (.inr (.inr (.inr (.inr (.inr (.inr y))))))))) => K .ret (fSt { tmps := V :: V :: .sc (.ptr 0 0 false) :: .sc (.ptr 1 0 false) :: pv 44 [], mem := [.live [.xs b64 (some 1), .xs b64 (some 1), .xs b64 (some 1), .xs (.int .u32) (some 1), .xs (.int .u32) (some 1), .xs (.int .u64) (some 2), .xs b64 (some 1), .xs b64 (some 1), .one (.nilsl), .one (.nilsl), .one (.nilsl)] (.own), .live [.xs b64 (some 1)] (.own)], dfr := [(55, [.ptr 0 0 false, .ptr 1 0 false])] } [.xs, .xs, .xs, .xs, .xs, .xs, .xs, .xs, .xs] y)
noncomputable def a4q (N : Nat) : LT := upd (a1h N) 8000002 (F5 b0e (a0J N) a9d)
theorem a9e (N : Nat) : OkAll p_msg_Get_E o0 N (a4q N) (x9 d8) :=
 a67 (k := 2) (a := H4 8000002 d8) (b := z0 8000002 d8) (a5D N) (by kernel_rfl) (fun x => by kernel_rfl) (fun β x K => by kernel_rfl)
end Go.Ax.TryP
set_option linter.unusedVariables false
namespace Go.Ax.TryP
open Go.Proofs
abbrev O8 : List Kd := [.sl b8]
abbrev O9 : List Kd := [.cat [.int .i64, .int .i64, .int .i64, .int .u32, .int .u32, .int .u64, .int .u64, .int .i64, .int .i64, .sl b8, .sl b8, .sl b8], .int .i64]
noncomputable def a3k (N : Nat) (x : List Int × Unit) : Option ((Int × Int × Int × Int × Int × Int × Int × Int × Int × List Int × List Int × List Int × Unit) × Int) :=
 a0J N _ ((List.length x.1), [0], [0], [0], [0], [0], (List.replicate 2 0), [0], [0], [0], (List.length x.1), x.1, ()) fun y => (match y with
 | .inl y82 => (
  some (((List.getD [0] 0 0), (List.getD [0] 0 0), (List.getD [0] 0 0), (List.getD [0] 0 0), (List.getD [0] 0 0), (List.getD (List.take 1 (List.replicate 2 0)) 0 0), (List.getD (List.drop 1 (List.replicate 2 0)) 0 0), (List.getD [0] 0 0), (List.getD [0] 0 0), [], [], [], ()), (List.getD (List.set y82.2.2.2.2.2.2.2.2.2.1 0 y82.1) 0 0)))
 | .inr (.inl y83) => (
  some (((List.getD [0] 0 0), (List.getD [0] 0 0), (List.getD [0] 0 0), (List.getD [0] 0 0), (List.getD [0] 0 0), (List.getD (List.take 1 (List.replicate 2 0)) 0 0), (List.getD (List.drop 1 (List.replicate 2 0)) 0 0), (List.getD [0] 0 0), (List.getD [0] 0 0), [], [], [], ()), (List.getD (List.set y83.2.2.2.2.2.2.2.2.2.2.1 0 y83.1) 0 0)))
 | .inr (.inr (.inl y84)) => (
  some (((List.getD [0] 0 0), (List.getD [0] 0 0), (List.getD [0] 0 0), (List.getD [0] 0 0), (List.getD [0] 0 0), (List.getD (List.take 1 (List.replicate 2 0)) 0 0), (List.getD (List.drop 1 (List.replicate 2 0)) 0 0), (List.getD [0] 0 0), (List.getD [0] 0 0), [], [], [], ()), (List.getD (List.set y84.2.2.2.2.2.2.2.2.2.2.2.1 0 y84.1) 0 0)))
 | .inr (.inr (.inr (.inl y85))) => (
  some (((List.getD y85.1 0 0), (List.getD y85.2.1 0 0), (List.getD y85.2.2.1 0 0), (List.getD y85.2.2.2.1 0 0), (List.getD y85.2.2.2.2.1 0 0), (List.getD (List.take 1 y85.2.2.2.2.2.1) 0 0), (List.getD (List.drop 1 y85.2.2.2.2.2.1) 0 0), (List.getD y85.2.2.2.2.2.2.1 0 0), (List.getD y85.2.2.2.2.2.2.2.1 0 0), y85.2.2.2.2.2.2.2.2.2.2.2.2.1, y85.2.2.2.2.2.2.2.2.2.2.2.2.2.2.1, [], ()), (List.getD y85.2.2.2.2.2.2.2.2.2.2.1 0 0)))
 | .inr (.inr (.inr (.inr (.inl y86)))) => (
  some (((List.getD [0] 0 0), (List.getD [0] 0 0), (List.getD [0] 0 0), (List.getD [0] 0 0), (List.getD [0] 0 0), (List.getD (List.take 1 (List.replicate 2 0)) 0 0), (List.getD (List.drop 1 (List.replicate 2 0)) 0 0), (List.getD [0] 0 0), (List.getD [0] 0 0), [], [], [], ()), (List.getD (List.set y86.2.2.2.2.2.2.2.2.2.2.1 0 y86.1) 0 0)))
 | .inr (.inr (.inr (.inr (.inr (.inl y87))))) => (
  some (((List.getD [0] 0 0), (List.getD [0] 0 0), (List.getD [0] 0 0), (List.getD [0] 0 0), (List.getD [0] 0 0), (List.getD (List.take 1 (List.replicate 2 0)) 0 0), (List.getD (List.drop 1 (List.replicate 2 0)) 0 0), (List.getD [0] 0 0), (List.getD [0] 0 0), [], [], [], ()), (List.getD (List.set y87.2.2.2.2.2.2.2.2.2.2.2.1 0 y87.1) 0 0)))
 | .inr (.inr (.inr (.inr (.inr (.inr (.inl y88)))))) => (
  some (((List.getD y88.1 0 0), (List.getD y88.2.1 0 0), (List.getD y88.2.2.1 0 0), (List.getD y88.2.2.2.1 0 0), (List.getD y88.2.2.2.2.1 0 0), (List.getD (List.take 1 y88.2.2.2.2.2.1) 0 0), (List.getD (List.drop 1 y88.2.2.2.2.2.1) 0 0), (List.getD y88.2.2.2.2.2.2.1 0 0), (List.getD y88.2.2.2.2.2.2.2.1 0 0), [], y88.2.2.2.2.2.2.2.2.2.2.2.2.1, y88.2.2.2.2.2.2.2.2.2.2.2.2.2.2.1, ()), (List.getD y88.2.2.2.2.2.2.2.2.2.2.1 0 0)))
 | .inr (.inr (.inr (.inr (.inr (.inr (.inr (.inl y89))))))) => (
  some (((List.getD y89.1 0 0), (List.getD y89.2.1 0 0), (List.getD y89.2.2.1 0 0), (List.getD y89.2.2.2.1 0 0), (List.getD y89.2.2.2.2.1 0 0), (List.getD (List.take 1 y89.2.2.2.2.2.1) 0 0), (List.getD (List.drop 1 y89.2.2.2.2.2.1) 0 0), (List.getD y89.2.2.2.2.2.2.1 0 0), (List.getD y89.2.2.2.2.2.2.2.1 0 0), y89.2.2.2.2.2.2.2.2.2.2.2.1, [], [], ()), (List.getD y89.2.2.2.2.2.2.2.2.2.1 0 0)))
 | .inr (.inr (.inr (.inr (.inr (.inr (.inr (.inr (.inl y90)))))))) => (
  some (((List.getD [0] 0 0), (List.getD [0] 0 0), (List.getD [0] 0 0), (List.getD [0] 0 0), (List.getD [0] 0 0), (List.getD (List.take 1 (List.replicate 2 0)) 0 0), (List.getD (List.drop 1 (List.replicate 2 0)) 0 0), (List.getD [0] 0 0), (List.getD [0] 0 0), [], [], [], ()), (List.getD (List.set y90.2.2.2.2.2.2.2.2.2.2.1 0 y90.1) 0 0)))
 | .inr (.inr (.inr (.inr (.inr (.inr (.inr (.inr (.inr (.inl y91))))))))) => (
  some (((List.getD y91.1 0 0), (List.getD y91.2.1 0 0), (List.getD y91.2.2.1 0 0), (List.getD y91.2.2.2.1 0 0), (List.getD y91.2.2.2.2.1 0 0), (List.getD (List.take 1 y91.2.2.2.2.2.1) 0 0), (List.getD (List.drop 1 y91.2.2.2.2.2.1) 0 0), (List.getD y91.2.2.2.2.2.2.1 0 0), (List.getD y91.2.2.2.2.2.2.2.1 0 0), [], [], y91.2.2.2.2.2.2.2.2.2.2.2.1, ()), (List.getD y91.2.2.2.2.2.2.2.2.2.1 0 0)))
 | .inr (.inr (.inr (.inr (.inr (.inr (.inr (.inr (.inr (.inr y92))))))))) => (
  some (((List.getD y92.1 0 0), (List.getD y92.2.1 0 0), (List.getD y92.2.2.1 0 0), (List.getD y92.2.2.2.1 0 0), (List.getD y92.2.2.2.2.1 0 0), (List.getD (List.take 1 y92.2.2.2.2.2.1) 0 0), (List.getD (List.drop 1 y92.2.2.2.2.2.1) 0 0), (List.getD y92.2.2.2.2.2.2.1 0 0), (List.getD y92.2.2.2.2.2.2.2.1 0 0), [], [], [], ()), (List.getD y92.2.2.2.2.2.2.2.2.1 0 0))))
theorem b1I (e0 : i0 Try.prog 14 a01) (e1 : i0 Try.prog 25 S9) (e2 : i0 Try.prog 67 J3) (e3 : i0 Try.prog 42 p9) : p_msg_Get_E.Ok Try.prog := AE.ofA_ok (all_cons X9 (all_cons I7 (all_cons v6 (all_cons N5 (all_cons a49 (all_cons b2v (all_cons b8v (all_cons b5b (all_cons b5c c6))))))))) (all_cons ⟨e0, a2Y⟩ (all_cons ⟨e1, a2o⟩ c6)) c6 (all_cons ⟨a7A, a7B⟩ c6) c6 (all_cons ⟨(L7 e2), I8⟩ (all_cons ⟨a24, a03⟩ (all_cons ⟨(a3Z e2 e3), a2C⟩ c6))) c6 c6 c6 c6
theorem b29 (hE : p_msg_Get_E.Ok Try.prog) {g : Ds O8 → Option (Rs O9)} (hg : ∀ x r, g x = some r → ∃ N, a3k N x = some r) : i0 Try.prog 32 ⟨O8, O9, g⟩ :=
 p8 (E := p_msg_Get_E) (H := o0) (L := fun N => a4q N) (c := d8) (ks := O8) (rs := O9) (F := a3k) hE mix Try.func32 (by kernel_rfl) (fun N => a9e N) (fun _ _ => by kernel_rfl) hg
end Go.Ax.TryP
set_option linter.unusedVariables false
namespace Go.Ax.TryP
open Go.Proofs
theorem mN {b c : List Int} (hb : bytes b) {w o L : Nat} {wi : Int} {Z : Option (Ms × Int)} {G : Int × Int → Option (Ms × Int)} {K : Int → List Int → Int ⊕ (Ms × List Int)} (hwi : wi = (w : Int)) (hw : 1 ≤ w ∧ w ≤ 8) (hc : c = b.drop o) (hL : L = b.length - o) (hZ : Z = some (zM, 8))
  (hG : ∀ n, 0 ≤ n → n < 256 ^ w → o + w ≤ b.length → G (n, 0) = some (b2O (K n (c.drop w)))) :
  (if ((L : Nat) : Int) < wi then Z else if 0 ≤ wi then (if wi ≤ ((L : Nat) : Int) then (if 0 ≤ wi then (if wi ≤ ((L : Nat) : Int) then (d7 (List.take w (List.drop o b), ())).bind G else none) else none) else none) else none) = some (b2O (rdN w c K)) := by
 subst hwi hc hL
 unfold rdN
 by_cases h : b.length - o < w
 ·rw [if_pos (by omega), if_pos (by rw [List.length_drop]; exact h), hZ]; rfl
 ·have hl : (List.take w (List.drop o b)).length = w := by rw [List.length_take, List.length_drop]; omega
  have hbb : bytes (List.take w (List.drop o b)) := a1E (a3H hb o) w
  have hn := a1f w hl hbb
  rw [if_neg (by omega), if_pos (by omega), if_pos (by omega), if_pos (by omega), if_pos (by omega), b8N hbb (by omega), Option.bind_some, hG _ hn.1 hn.2 (by omega), if_neg (by rw [List.length_drop]; omega)]
theorem mX {b c : List Int} (hb : bytes b) (hbl : b.length ≤ 1000000) {o L : Nat} {n most wm : Int} {Z3 Z8 : Option (Ms × Int)} {G : List Int → Option (Ms × Int)} {K : List Int → List Int → Int ⊕ (Ms × List Int)} (h0 : 0 ≤ n) (h1 : n ≤ 65535) (ho : o ≤ b.length) (hwm : wm = most) (hc : c = b.drop o) (hL : L = b.length - o)
  (h3 : Z3 = some (zM, 3)) (h8 : Z8 = some (zM, 8)) (hG : ∀ t, bytes t → t.length = n.toNat → (t.length : Int) ≤ most → o + n.toNat ≤ b.length → G t = some (b2O (K t (c.drop n.toNat)))) :
  (if n > wm then Z3 else if n = n then (if IntKind.i64.wrap n = IntKind.i64.wrap n then (if ((L : Nat) : Int) < IntKind.i64.wrap n then Z8 else if 0 ≤ IntKind.i64.wrap n then (if IntKind.i64.wrap n ≤ ((L : Nat) : Int) then (if 0 ≤ IntKind.i64.wrap n then (if IntKind.i64.wrap n ≤ ((L : Nat) : Int) then (if n = n then (if IntKind.i64.wrap n = IntKind.i64.wrap n then
   (i4 (List.take (IntKind.i64.wrap n).toNat (List.drop o b), ())).bind fun r => if n = n then (if IntKind.i64.wrap n = IntKind.i64.wrap n then G r else none) else none else none) else none) else none) else none) else none) else none) else none) else none)
   = some (b2O (if most < n then .inl 3 else if c.length < n.toNat then .inl 8 else K (c.take n.toNat) (c.drop n.toNat))) := by
 subst hwm hc hL
 rw [f7 (x := n) (by omega) (by omega)]
 by_cases hm : wm < n
 ·rw [if_pos hm, if_pos hm, h3]; rfl
 ·rw [if_neg hm, if_neg hm, if_pos rfl, if_pos rfl]
  by_cases h : b.length - o < n.toNat
  ·rw [if_pos (by omega), if_pos (by rw [List.length_drop]; exact h), h8]; rfl
  ·have hl : (List.take n.toNat (List.drop o b)).length = n.toNat := by rw [List.length_take, List.length_drop]; omega
   have hbb : bytes (List.take n.toNat (List.drop o b)) := a1E (a3H hb o) _
   rw [if_neg (by omega), if_pos (by omega), if_pos (by omega), if_pos (by omega), if_pos (by omega), if_pos rfl, if_pos rfl, b8Q (by omega) hbb, Option.bind_some, if_pos rfl, if_pos rfl, hG _ hbb hl (by omega) (by omega), if_neg (by rw [List.length_drop]; omega)]
theorem mE {c : List Int} {L : Nat} {m : Ms} (hm : Y3 m) {Z : Option (Ms × Int)} {G : Int → Option (Ms × Int)} (hL : L = c.length) (hZ : Z = some (zM, 212)) (hG : ∀ e, G e = if e ≠ 0 then some (zM, e) else some (m, 0)) :
  (if ((L : Nat) : Int) > 0 then Z else (y9 (m, ())).bind G) = some (b2O (.inr (m, c))) := by
 subst hL
 unfold b2O
 by_cases h : c.length > 0
 ·rw [if_pos (by omega), hZ]
  simp [h]
 ·rw [if_neg (by omega), b5q hm, Option.bind_some, hG]
  simp only [h, if_false]
  by_cases hc : A4 m = 0
  ·rw [if_neg (not_not_intro hc), if_pos hc]
  ·rw [if_pos hc, if_neg hc]
end Go.Ax.TryP
set_option linter.unusedVariables false
set_option linter.unusedSimpArgs false
namespace Go.Ax.TryP
open Go.Proofs
theorem b76 : ∀ x r, a5m x = some r → ∃ N, a3k N x = some r := by
 refine j9 (ks := O8) (rs := O9) fun x hw hq => ⟨0, ?_⟩
 obtain ⟨(b : List Int), u⟩ := x
 obtain ⟨_, hb⟩ : b.length ≤ maxLen ∧ bytes b := Q2.1 hw.1
 have hl : b.length ≤ 1000000 := hq
 have hM := b7R
 have e1 : (256 : Int) ^ 1 = 256 := by decide
 have e2 : (256 : Int) ^ 2 = 65536 := by decide
 have e4 : (256 : Int) ^ 4 = 4294967296 := by decide
 have e8 : (256 : Int) ^ 8 = 18446744073709551616 := by decide
 show a3k 0 (b, u) = some (w5 b)
 unfold a3k a0J w5 rdA
 dsimp only
 refine mN hb (w := 1) (o := 0) rfl (by omega) rfl (by omega) rfl fun n0 a0 b0 k0 => ?_
 rw [f7 (x := n0) (by omega) (by omega)]
 try dsimp only
 rw [g1 n0, b7d (by omega), Option.bind_some]
 by_cases hn : a5v n0 = ⟨#[]⟩
 ·rw [if_pos hn, if_pos hn]; rfl
 rw [if_neg hn, if_neg hn]
 rcases b2S n0 with ⟨ek, e⟩ | ⟨ek, e⟩ | ⟨ek, e⟩ | ⟨ek, e⟩ | ⟨ek, e⟩ | ⟨ek, e⟩ | ⟨d1, d2, d3, d4, d5, d6, e⟩ <;> rw [e]
 ·refine (if_pos ek).trans ?_
  refine (if_pos (by decide)).trans ?_
  refine (if_pos (by decide)).trans ?_
  refine (if_pos (by decide)).trans ?_
  refine (if_pos (by decide)).trans ?_
  unfold N9
  try dsimp only
  refine mN hb (w := 1) rfl (by omega) (by simp only [List.drop_drop]; first | done | exact congrArg (fun j => List.drop j b) (by (try simp only [c8]) <;> omega)) (by first | rfl | omega | (simp only [d9, c8] at * <;> omega)) rfl fun n1 a1 b1 k1 => ?_
  rw [f7 (x := n1) (by omega) (by omega)]
  try dsimp only
  refine mN hb (w := 1) rfl (by omega) (by simp only [List.drop_drop]; first | done | exact congrArg (fun j => List.drop j b) (by (try simp only [c8]) <;> omega)) (by first | rfl | omega | (simp only [d9, c8] at * <;> omega)) rfl fun n2 a2 b2 k2 => ?_
  rw [f7 (x := n2) (by omega) (by omega)]
  try dsimp only
  refine mN hb (w := 4) rfl (by omega) (by simp only [List.drop_drop]; first | done | exact congrArg (fun j => List.drop j b) (by (try simp only [c8]) <;> omega)) (by first | rfl | omega | (simp only [d9, c8] at * <;> omega)) rfl fun n3 a3 b3 k3 => ?_
  rw [w32 (n := n3) (by omega) (by omega)]
  try dsimp only
  rw [b3D]
  refine mN hb (w := 4) rfl (by omega) (by simp only [List.drop_drop]; first | done | exact congrArg (fun j => List.drop j b) (by (try simp only [c8]) <;> omega)) (by first | rfl | omega | (simp only [d9, c8] at * <;> omega)) rfl fun n4 a4 b4 k4 => ?_
  try dsimp only
  rw [w32 (n := n4) (by omega) (by omega)]
  rw [b3E]
  refine mN hb (w := 8) rfl (by omega) (by simp only [List.drop_drop]; first | done | exact congrArg (fun j => List.drop j b) (by (try simp only [c8]) <;> omega)) (by first | rfl | omega | (simp only [d9, c8] at * <;> omega)) rfl fun n5 a5 b5 k5 => ?_
  try dsimp only
  refine mN hb (w := 8) rfl (by omega) (by simp only [List.drop_drop]; first | done | exact congrArg (fun j => List.drop j b) (by (try simp only [c8]) <;> omega)) (by first | rfl | omega | (simp only [d9, c8] at * <;> omega)) rfl fun n6 a6 b6 k6 => ?_
  try dsimp only
  rw [b6I]
  unfold rdT
  refine mN hb (w := 2) rfl (by omega) (by simp only [List.drop_drop]; first | done | exact congrArg (fun j => List.drop j b) (by (try simp only [c8]) <;> omega)) (by first | rfl | omega | (simp only [d9, c8] at * <;> omega)) rfl fun n7 a7 b7 k7 => ?_
  try dsimp only
  refine mX (K := fun t b2 => a7l [99] (n0, n1, n2, n3, n4, n5, n6, 0, 0, t, [], [], ()) b2) hb hl (by omega) (by omega) (by first | omega | (simp only [c8] at * <;> omega)) rfl (by simp only [List.drop_drop]; first | done | exact congrArg (fun j => List.drop j b) (by (try simp only [c8]) <;> omega)) (by first | rfl | omega | (simp only [d9, c8] at * <;> omega)) rfl rfl fun t7 ht7 hl7 hm7 q7 => ?_
  rw [f7 (x := n7) (by omega) (by omega)]
  try dsimp only
  rw [b9u]
  unfold rdT
  refine mN hb (w := 2) rfl (by omega) (by simp only [List.drop_drop]; first | done | exact congrArg (fun j => List.drop j b) (by (try simp only [c8]) <;> omega)) (by first | rfl | omega | (simp only [d9, c8] at * <;> omega)) rfl fun n8 a8 b8 k8 => ?_
  try dsimp only
  refine mX (K := fun t b2 => a7l [] (n0, n1, n2, n3, n4, n5, n6, 0, 0, t7, t, [], ()) b2) hb hl (by omega) (by omega) (by first | omega | (simp only [c8] at * <;> omega)) rfl (by simp only [List.drop_drop]; first | done | exact congrArg (fun j => List.drop j b) (by (try simp only [c8]) <;> omega)) (by first | rfl | omega | (simp only [d9, c8] at * <;> omega)) rfl rfl fun t8 ht8 hl8 hm8 q8 => ?_
  rw [f7 (x := n8) (by omega) (by omega)]
  try dsimp only
  have hm : Y3 (n0, n1, n2, n3, n4, n5, n6, 0, 0, t7, t8, [], ()) := ⟨(by dsimp only; omega), (by dsimp only; omega), (by dsimp only; omega), (by dsimp only; omega), (by dsimp only; omega), (by dsimp only; omega), (by dsimp only; omega), (by dsimp only; omega), (by dsimp only; omega), ⟨(by dsimp only; omega), ht7⟩, ⟨(by dsimp only; omega), ht8⟩, A5⟩
  unfold K6
  try dsimp only
  refine mE hm (by simp only [List.length_drop] <;> first | omega | (simp only [d9, c8] at * <;> omega)) rfl fun e => ?_
  split <;> rfl
 ·refine (if_neg (by omega)).trans ?_
  refine (if_pos ek).trans ?_
  refine (if_pos (by decide)).trans ?_
  refine (if_pos (by decide)).trans ?_
  refine (if_pos (by decide)).trans ?_
  refine (if_pos (by decide)).trans ?_
  unfold H6
  try dsimp only
  refine mN hb (w := 1) rfl (by omega) (by simp only [List.drop_drop]; first | done | exact congrArg (fun j => List.drop j b) (by (try simp only [c8]) <;> omega)) (by first | rfl | omega | (simp only [d9, c8] at * <;> omega)) rfl fun n1 a1 b1 k1 => ?_
  rw [f7 (x := n1) (by omega) (by omega)]
  try dsimp only
  refine mN hb (w := 1) rfl (by omega) (by simp only [List.drop_drop]; first | done | exact congrArg (fun j => List.drop j b) (by (try simp only [c8]) <;> omega)) (by first | rfl | omega | (simp only [d9, c8] at * <;> omega)) rfl fun n2 a2 b2 k2 => ?_
  rw [f7 (x := n2) (by omega) (by omega)]
  try dsimp only
  refine mN hb (w := 4) rfl (by omega) (by simp only [List.drop_drop]; first | done | exact congrArg (fun j => List.drop j b) (by (try simp only [c8]) <;> omega)) (by first | rfl | omega | (simp only [d9, c8] at * <;> omega)) rfl fun n3 a3 b3 k3 => ?_
  rw [w32 (n := n3) (by omega) (by omega)]
  try dsimp only
  rw [b3D]
  refine mN hb (w := 4) rfl (by omega) (by simp only [List.drop_drop]; first | done | exact congrArg (fun j => List.drop j b) (by (try simp only [c8]) <;> omega)) (by first | rfl | omega | (simp only [d9, c8] at * <;> omega)) rfl fun n4 a4 b4 k4 => ?_
  try dsimp only
  rw [w32 (n := n4) (by omega) (by omega)]
  rw [b3E]
  refine mN hb (w := 8) rfl (by omega) (by simp only [List.drop_drop]; first | done | exact congrArg (fun j => List.drop j b) (by (try simp only [c8]) <;> omega)) (by first | rfl | omega | (simp only [d9, c8] at * <;> omega)) rfl fun n5 a5 b5 k5 => ?_
  try dsimp only
  refine mN hb (w := 8) rfl (by omega) (by simp only [List.drop_drop]; first | done | exact congrArg (fun j => List.drop j b) (by (try simp only [c8]) <;> omega)) (by first | rfl | omega | (simp only [d9, c8] at * <;> omega)) rfl fun n6 a6 b6 k6 => ?_
  try dsimp only
  rw [b9u]
  unfold rdT
  refine mN hb (w := 2) rfl (by omega) (by simp only [List.drop_drop]; first | done | exact congrArg (fun j => List.drop j b) (by (try simp only [c8]) <;> omega)) (by first | rfl | omega | (simp only [d9, c8] at * <;> omega)) rfl fun n7 a7 b7 k7 => ?_
  try dsimp only
  refine mX (K := fun t b2 => a7l [115] (n0, n1, n2, n3, n4, n5, n6, 0, 0, [], t, [], ()) b2) hb hl (by omega) (by omega) (by first | omega | (simp only [c8] at * <;> omega)) rfl (by simp only [List.drop_drop]; first | done | exact congrArg (fun j => List.drop j b) (by (try simp only [c8]) <;> omega)) (by first | rfl | omega | (simp only [d9, c8] at * <;> omega)) rfl rfl fun t7 ht7 hl7 hm7 q7 => ?_
  rw [f7 (x := n7) (by omega) (by omega)]
  try dsimp only
  rw [b6J]
  unfold rdT
  refine mN hb (w := 2) rfl (by omega) (by simp only [List.drop_drop]; first | done | exact congrArg (fun j => List.drop j b) (by (try simp only [c8]) <;> omega)) (by first | rfl | omega | (simp only [d9, c8] at * <;> omega)) rfl fun n8 a8 b8 k8 => ?_
  try dsimp only
  refine mX (K := fun t b2 => a7l [] (n0, n1, n2, n3, n4, n5, n6, 0, 0, [], t7, t, ()) b2) hb hl (by omega) (by omega) (by first | omega | (simp only [c8] at * <;> omega)) rfl (by simp only [List.drop_drop]; first | done | exact congrArg (fun j => List.drop j b) (by (try simp only [c8]) <;> omega)) (by first | rfl | omega | (simp only [d9, c8] at * <;> omega)) rfl rfl fun t8 ht8 hl8 hm8 q8 => ?_
  rw [f7 (x := n8) (by omega) (by omega)]
  try dsimp only
  have hm : Y3 (n0, n1, n2, n3, n4, n5, n6, 0, 0, [], t7, t8, ()) := ⟨(by dsimp only; omega), (by dsimp only; omega), (by dsimp only; omega), (by dsimp only; omega), (by dsimp only; omega), (by dsimp only; omega), (by dsimp only; omega), (by dsimp only; omega), (by dsimp only; omega), A5, ⟨(by dsimp only; omega), ht7⟩, ⟨(by dsimp only; omega), ht8⟩⟩
  unfold E4
  try dsimp only
  refine mE hm (by simp only [List.length_drop] <;> first | omega | (simp only [d9, c8] at * <;> omega)) rfl fun e => ?_
  split <;> rfl
 ·refine (if_neg (by omega)).trans ?_
  refine (if_neg (by omega)).trans ?_
  refine (if_pos ek).trans ?_
  refine (if_pos (by decide)).trans ?_
  refine (if_pos (by decide)).trans ?_
  refine (if_pos (by decide)).trans ?_
  unfold H7
  try dsimp only
  refine mN hb (w := 1) rfl (by omega) (by simp only [List.drop_drop]; first | done | exact congrArg (fun j => List.drop j b) (by (try simp only [c8]) <;> omega)) (by first | rfl | omega | (simp only [d9, c8] at * <;> omega)) rfl fun n1 a1 b1 k1 => ?_
  rw [f7 (x := n1) (by omega) (by omega)]
  try dsimp only
  refine mN hb (w := 1) rfl (by omega) (by simp only [List.drop_drop]; first | done | exact congrArg (fun j => List.drop j b) (by (try simp only [c8]) <;> omega)) (by first | rfl | omega | (simp only [d9, c8] at * <;> omega)) rfl fun n2 a2 b2 k2 => ?_
  rw [f7 (x := n2) (by omega) (by omega)]
  try dsimp only
  refine mN hb (w := 4) rfl (by omega) (by simp only [List.drop_drop]; first | done | exact congrArg (fun j => List.drop j b) (by (try simp only [c8]) <;> omega)) (by first | rfl | omega | (simp only [d9, c8] at * <;> omega)) rfl fun n3 a3 b3 k3 => ?_
  rw [w32 (n := n3) (by omega) (by omega)]
  try dsimp only
  rw [c1x]
  refine mN hb (w := 2) rfl (by omega) (by simp only [List.drop_drop]; first | done | exact congrArg (fun j => List.drop j b) (by (try simp only [c8]) <;> omega)) (by first | rfl | omega | (simp only [d9, c8] at * <;> omega)) rfl fun n4 a4 b4 k4 => ?_
  try dsimp only
  rw [f7 (x := n4) (by omega) (by omega)]
  rw [b9v]
  refine mN hb (w := 2) rfl (by omega) (by simp only [List.drop_drop]; first | done | exact congrArg (fun j => List.drop j b) (by (try simp only [c8]) <;> omega)) (by first | rfl | omega | (simp only [d9, c8] at * <;> omega)) rfl fun n5 a5 b5 k5 => ?_
  try dsimp only
  rw [f7 (x := n5) (by omega) (by omega)]
  rw [b6I]
  unfold rdT
  refine mN hb (w := 2) rfl (by omega) (by simp only [List.drop_drop]; first | done | exact congrArg (fun j => List.drop j b) (by (try simp only [c8]) <;> omega)) (by first | rfl | omega | (simp only [d9, c8] at * <;> omega)) rfl fun n6 a6 b6 k6 => ?_
  try dsimp only
  refine mX (K := fun t b2 => a7l [] (n0, n1, n2, n3, 0, 0, 0, n4, n5, t, [], [], ()) b2) hb hl (by omega) (by omega) (by first | omega | (simp only [c8] at * <;> omega)) rfl (by simp only [List.drop_drop]; first | done | exact congrArg (fun j => List.drop j b) (by (try simp only [c8]) <;> omega)) (by first | rfl | omega | (simp only [d9, c8] at * <;> omega)) rfl rfl fun t6 ht6 hl6 hm6 q6 => ?_
  rw [f7 (x := n6) (by omega) (by omega)]
  try dsimp only
  have hm : Y3 (n0, n1, n2, n3, 0, 0, 0, n4, n5, t6, [], [], ()) := ⟨(by dsimp only; omega), (by dsimp only; omega), (by dsimp only; omega), (by dsimp only; omega), (by dsimp only; omega), (by dsimp only; omega), (by dsimp only; omega), (by dsimp only; omega), (by dsimp only; omega), ⟨(by dsimp only; omega), ht6⟩, A5, A5⟩
  unfold w6
  try dsimp only
  refine mE hm (by simp only [List.length_drop] <;> first | omega | (simp only [d9, c8] at * <;> omega)) rfl fun e => ?_
  split <;> rfl
 ·refine (if_neg (by omega)).trans ?_
  refine (if_neg (by omega)).trans ?_
  refine (if_neg (by omega)).trans ?_
  refine (if_pos ek).trans ?_
  refine (if_pos (by decide)).trans ?_
  refine (if_pos (by decide)).trans ?_
  unfold H8
  try dsimp only
  refine mN hb (w := 1) rfl (by omega) (by simp only [List.drop_drop]; first | done | exact congrArg (fun j => List.drop j b) (by (try simp only [c8]) <;> omega)) (by first | rfl | omega | (simp only [d9, c8] at * <;> omega)) rfl fun n1 a1 b1 k1 => ?_
  rw [f7 (x := n1) (by omega) (by omega)]
  try dsimp only
  refine mN hb (w := 1) rfl (by omega) (by simp only [List.drop_drop]; first | done | exact congrArg (fun j => List.drop j b) (by (try simp only [c8]) <;> omega)) (by first | rfl | omega | (simp only [d9, c8] at * <;> omega)) rfl fun n2 a2 b2 k2 => ?_
  rw [f7 (x := n2) (by omega) (by omega)]
  try dsimp only
  refine mN hb (w := 4) rfl (by omega) (by simp only [List.drop_drop]; first | done | exact congrArg (fun j => List.drop j b) (by (try simp only [c8]) <;> omega)) (by first | rfl | omega | (simp only [d9, c8] at * <;> omega)) rfl fun n3 a3 b3 k3 => ?_
  rw [w32 (n := n3) (by omega) (by omega)]
  try dsimp only
  rw [b9v]
  refine mN hb (w := 2) rfl (by omega) (by simp only [List.drop_drop]; first | done | exact congrArg (fun j => List.drop j b) (by (try simp only [c8]) <;> omega)) (by first | rfl | omega | (simp only [d9, c8] at * <;> omega)) rfl fun n4 a4 b4 k4 => ?_
  try dsimp only
  rw [f7 (x := n4) (by omega) (by omega)]
  rw [b6I]
  unfold rdT
  refine mN hb (w := 2) rfl (by omega) (by simp only [List.drop_drop]; first | done | exact congrArg (fun j => List.drop j b) (by (try simp only [c8]) <;> omega)) (by first | rfl | omega | (simp only [d9, c8] at * <;> omega)) rfl fun n5 a5 b5 k5 => ?_
  try dsimp only
  refine mX (K := fun t b2 => a7l [] (n0, n1, n2, n3, 0, 0, 0, 0, n4, t, [], [], ()) b2) hb hl (by omega) (by omega) (by first | omega | (simp only [c8] at * <;> omega)) rfl (by simp only [List.drop_drop]; first | done | exact congrArg (fun j => List.drop j b) (by (try simp only [c8]) <;> omega)) (by first | rfl | omega | (simp only [d9, c8] at * <;> omega)) rfl rfl fun t5 ht5 hl5 hm5 q5 => ?_
  rw [f7 (x := n5) (by omega) (by omega)]
  try dsimp only
  have hm : Y3 (n0, n1, n2, n3, 0, 0, 0, 0, n4, t5, [], [], ()) := ⟨(by dsimp only; omega), (by dsimp only; omega), (by dsimp only; omega), (by dsimp only; omega), (by dsimp only; omega), (by dsimp only; omega), (by dsimp only; omega), (by dsimp only; omega), (by dsimp only; omega), ⟨(by dsimp only; omega), ht5⟩, A5, A5⟩
  unfold w6
  try dsimp only
  refine mE hm (by simp only [List.length_drop] <;> first | omega | (simp only [d9, c8] at * <;> omega)) rfl fun e => ?_
  split <;> rfl
 ·refine (if_neg (by omega)).trans ?_
  refine (if_neg (by omega)).trans ?_
  refine (if_neg (by omega)).trans ?_
  refine (if_neg (by omega)).trans ?_
  refine (if_pos ek).trans ?_
  refine (if_pos (by decide)).trans ?_
  refine (if_pos (by decide)).trans ?_
  refine (if_pos (by decide)).trans ?_
  unfold x7
  try dsimp only
  refine mN hb (w := 1) rfl (by omega) (by simp only [List.drop_drop]; first | done | exact congrArg (fun j => List.drop j b) (by (try simp only [c8]) <;> omega)) (by first | rfl | omega | (simp only [d9, c8] at * <;> omega)) rfl fun n1 a1 b1 k1 => ?_
  rw [f7 (x := n1) (by omega) (by omega)]
  try dsimp only
  refine mN hb (w := 1) rfl (by omega) (by simp only [List.drop_drop]; first | done | exact congrArg (fun j => List.drop j b) (by (try simp only [c8]) <;> omega)) (by first | rfl | omega | (simp only [d9, c8] at * <;> omega)) rfl fun n2 a2 b2 k2 => ?_
  rw [f7 (x := n2) (by omega) (by omega)]
  try dsimp only
  refine mN hb (w := 4) rfl (by omega) (by simp only [List.drop_drop]; first | done | exact congrArg (fun j => List.drop j b) (by (try simp only [c8]) <;> omega)) (by first | rfl | omega | (simp only [d9, c8] at * <;> omega)) rfl fun n3 a3 b3 k3 => ?_
  rw [w32 (n := n3) (by omega) (by omega)]
  try dsimp only
  rw [b3D]
  refine mN hb (w := 4) rfl (by omega) (by simp only [List.drop_drop]; first | done | exact congrArg (fun j => List.drop j b) (by (try simp only [c8]) <;> omega)) (by first | rfl | omega | (simp only [d9, c8] at * <;> omega)) rfl fun n4 a4 b4 k4 => ?_
  try dsimp only
  rw [w32 (n := n4) (by omega) (by omega)]
  rw [b3E]
  refine mN hb (w := 8) rfl (by omega) (by simp only [List.drop_drop]; first | done | exact congrArg (fun j => List.drop j b) (by (try simp only [c8]) <;> omega)) (by first | rfl | omega | (simp only [d9, c8] at * <;> omega)) rfl fun n5 a5 b5 k5 => ?_
  try dsimp only
  refine mN hb (w := 8) rfl (by omega) (by simp only [List.drop_drop]; first | done | exact congrArg (fun j => List.drop j b) (by (try simp only [c8]) <;> omega)) (by first | rfl | omega | (simp only [d9, c8] at * <;> omega)) rfl fun n6 a6 b6 k6 => ?_
  try dsimp only
  rw [b6J]
  unfold rdT
  refine mN hb (w := 2) rfl (by omega) (by simp only [List.drop_drop]; first | done | exact congrArg (fun j => List.drop j b) (by (try simp only [c8]) <;> omega)) (by first | rfl | omega | (simp only [d9, c8] at * <;> omega)) rfl fun n7 a7 b7 k7 => ?_
  try dsimp only
  refine mX (K := fun t b2 => a7l [] (n0, n1, n2, n3, n4, n5, n6, 0, 0, [], [], t, ()) b2) hb hl (by omega) (by omega) (by first | omega | (simp only [c8] at * <;> omega)) rfl (by simp only [List.drop_drop]; first | done | exact congrArg (fun j => List.drop j b) (by (try simp only [c8]) <;> omega)) (by first | rfl | omega | (simp only [d9, c8] at * <;> omega)) rfl rfl fun t7 ht7 hl7 hm7 q7 => ?_
  rw [f7 (x := n7) (by omega) (by omega)]
  try dsimp only
  have hm : Y3 (n0, n1, n2, n3, n4, n5, n6, 0, 0, [], [], t7, ()) := ⟨(by dsimp only; omega), (by dsimp only; omega), (by dsimp only; omega), (by dsimp only; omega), (by dsimp only; omega), (by dsimp only; omega), (by dsimp only; omega), (by dsimp only; omega), (by dsimp only; omega), A5, A5, ⟨(by dsimp only; omega), ht7⟩⟩
  unfold w7
  try dsimp only
  refine mE hm (by simp only [List.length_drop] <;> first | omega | (simp only [d9, c8] at * <;> omega)) rfl fun e => ?_
  split <;> rfl
 ·refine (if_neg (by omega)).trans ?_
  refine (if_neg (by omega)).trans ?_
  refine (if_neg (by omega)).trans ?_
  refine (if_neg (by omega)).trans ?_
  refine (if_neg (by omega)).trans ?_
  refine (if_pos ek).trans ?_
  refine (if_pos (by decide)).trans ?_
  refine (if_pos (by decide)).trans ?_
  refine (if_pos (by decide)).trans ?_
  unfold x7
  try dsimp only
  refine mN hb (w := 1) rfl (by omega) (by simp only [List.drop_drop]; first | done | exact congrArg (fun j => List.drop j b) (by (try simp only [c8]) <;> omega)) (by first | rfl | omega | (simp only [d9, c8] at * <;> omega)) rfl fun n1 a1 b1 k1 => ?_
  rw [f7 (x := n1) (by omega) (by omega)]
  try dsimp only
  refine mN hb (w := 1) rfl (by omega) (by simp only [List.drop_drop]; first | done | exact congrArg (fun j => List.drop j b) (by (try simp only [c8]) <;> omega)) (by first | rfl | omega | (simp only [d9, c8] at * <;> omega)) rfl fun n2 a2 b2 k2 => ?_
  rw [f7 (x := n2) (by omega) (by omega)]
  try dsimp only
  refine mN hb (w := 4) rfl (by omega) (by simp only [List.drop_drop]; first | done | exact congrArg (fun j => List.drop j b) (by (try simp only [c8]) <;> omega)) (by first | rfl | omega | (simp only [d9, c8] at * <;> omega)) rfl fun n3 a3 b3 k3 => ?_
  rw [w32 (n := n3) (by omega) (by omega)]
  try dsimp only
  rw [b3D]
  refine mN hb (w := 4) rfl (by omega) (by simp only [List.drop_drop]; first | done | exact congrArg (fun j => List.drop j b) (by (try simp only [c8]) <;> omega)) (by first | rfl | omega | (simp only [d9, c8] at * <;> omega)) rfl fun n4 a4 b4 k4 => ?_
  try dsimp only
  rw [w32 (n := n4) (by omega) (by omega)]
  rw [b3E]
  refine mN hb (w := 8) rfl (by omega) (by simp only [List.drop_drop]; first | done | exact congrArg (fun j => List.drop j b) (by (try simp only [c8]) <;> omega)) (by first | rfl | omega | (simp only [d9, c8] at * <;> omega)) rfl fun n5 a5 b5 k5 => ?_
  try dsimp only
  refine mN hb (w := 8) rfl (by omega) (by simp only [List.drop_drop]; first | done | exact congrArg (fun j => List.drop j b) (by (try simp only [c8]) <;> omega)) (by first | rfl | omega | (simp only [d9, c8] at * <;> omega)) rfl fun n6 a6 b6 k6 => ?_
  try dsimp only
  rw [b6J]
  unfold rdT
  refine mN hb (w := 2) rfl (by omega) (by simp only [List.drop_drop]; first | done | exact congrArg (fun j => List.drop j b) (by (try simp only [c8]) <;> omega)) (by first | rfl | omega | (simp only [d9, c8] at * <;> omega)) rfl fun n7 a7 b7 k7 => ?_
  try dsimp only
  refine mX (K := fun t b2 => a7l [] (n0, n1, n2, n3, n4, n5, n6, 0, 0, [], [], t, ()) b2) hb hl (by omega) (by omega) (by first | omega | (simp only [c8] at * <;> omega)) rfl (by simp only [List.drop_drop]; first | done | exact congrArg (fun j => List.drop j b) (by (try simp only [c8]) <;> omega)) (by first | rfl | omega | (simp only [d9, c8] at * <;> omega)) rfl rfl fun t7 ht7 hl7 hm7 q7 => ?_
  rw [f7 (x := n7) (by omega) (by omega)]
  try dsimp only
  have hm : Y3 (n0, n1, n2, n3, n4, n5, n6, 0, 0, [], [], t7, ()) := ⟨(by dsimp only; omega), (by dsimp only; omega), (by dsimp only; omega), (by dsimp only; omega), (by dsimp only; omega), (by dsimp only; omega), (by dsimp only; omega), (by dsimp only; omega), (by dsimp only; omega), A5, A5, ⟨(by dsimp only; omega), ht7⟩⟩
  unfold w7
  try dsimp only
  refine mE hm (by simp only [List.length_drop] <;> first | omega | (simp only [d9, c8] at * <;> omega)) rfl fun e => ?_
  split <;> rfl
 ·refine (if_neg d1).trans ?_
  refine (if_neg d2).trans ?_
  refine (if_neg d3).trans ?_
  refine (if_neg d4).trans ?_
  refine (if_neg d5).trans ?_
  refine (if_neg d6).trans ?_
  unfold H9
  try dsimp only
  refine mN hb (w := 1) rfl (by omega) (by simp only [List.drop_drop]; first | done | exact congrArg (fun j => List.drop j b) (by (try simp only [c8]) <;> omega)) (by first | rfl | omega | (simp only [d9, c8] at * <;> omega)) rfl fun n1 a1 b1 k1 => ?_
  rw [f7 (x := n1) (by omega) (by omega)]
  try dsimp only
  refine mN hb (w := 1) rfl (by omega) (by simp only [List.drop_drop]; first | done | exact congrArg (fun j => List.drop j b) (by (try simp only [c8]) <;> omega)) (by first | rfl | omega | (simp only [d9, c8] at * <;> omega)) rfl fun n2 a2 b2 k2 => ?_
  rw [f7 (x := n2) (by omega) (by omega)]
  try dsimp only
  refine mN hb (w := 4) rfl (by omega) (by simp only [List.drop_drop]; first | done | exact congrArg (fun j => List.drop j b) (by (try simp only [c8]) <;> omega)) (by first | rfl | omega | (simp only [d9, c8] at * <;> omega)) rfl fun n3 a3 b3 k3 => ?_
  rw [w32 (n := n3) (by omega) (by omega)]
  try dsimp only
  have hm : Y3 (n0, n1, n2, n3, 0, 0, 0, 0, 0, [], [], [], ()) := ⟨(by dsimp only; omega), (by dsimp only; omega), (by dsimp only; omega), (by dsimp only; omega), (by dsimp only; omega), (by dsimp only; omega), (by dsimp only; omega), (by dsimp only; omega), (by dsimp only; omega), A5, A5, A5⟩
  unfold E5
  try dsimp only
  refine mE hm (by simp only [List.length_drop] <;> first | omega | (simp only [d9, c8] at * <;> omega)) rfl fun e => ?_
  split <;> rfl
end Go.Ax.TryP
