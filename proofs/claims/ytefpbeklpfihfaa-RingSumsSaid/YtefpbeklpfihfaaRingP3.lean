/- A part of the proof: RingP3. -/
import Derived.Test.YtefpbeklpfihfaaRingS3
/-! Printed by program (gen.py). -/
set_option linter.unusedVariables false
namespace Go.Ax.TryP
/-! livery/ring.Inv -/
noncomputable def p26_E : AE := AE.of [(22, ty22), (24, ty24), (48, ty48)] [(37, ⟨[.xs (.int .u16) 256], [.xs (.int .u16) 256], g37⟩), (46, ⟨[], [.xs (.int .u16) 128], g46⟩), (47, ⟨[.int .u16, .int .u16], [.int .u16], g47⟩)]
noncomputable def p26_H : Hints := [(5, [1, 2, 3, 4, 5]), (8, [1, 2, 3, 4, 5, 6]), (11, [1, 2, 3, 4, 5, 6, 7]), (17, [1, 2, 61]), (2000000, [1, 2]), (2000001, [1, 2, 3, 4, 5]), (2000002, [1, 2, 3, 4, 5]), (2000003, [1, 2, 3, 4, 5, 6]), (2000004, [1, 2, 3, 4, 5, 6]), (2000005, [1, 2, 3, 4, 5, 6, 7]), (2000006, [1, 2]), (2000007, [1, 2, 61]), (3000000, [2])]
noncomputable def p26_c : Code := (Go.Proofs.Try.f26).body.getD .skip
noncomputable def p26_l11_S : Shape where
  h := { tmps := [.any, .sc (.ptr 0 0 false), .sc (.ptr 1 0 false), .sc (.ptr 2 0 false), .sc (.int .i64), .sc (.int .i64), .sc (.int .i64), .sc (.int .i64), .any, .any, .any, .any, .any, .any, .any, .any, .any, .any, .any, .any, .any, .any, .any, .any, .any, .any, .any, .any, .any, .any, .any, .any, .any, .any, .any, .any, .any, .any, .any, .any, .any, .any, .any, .any, .any, .any, .any, .any, .any, .any, .any, .any, .any, .any, .any, .any, .any, .any, .any, .any, .any, .any, .any, .any, .any, .any, .any, .any, .any, .any, .any, .any], mem := [.live [.xs (.int .u16) (some 256)] true, .live [.xs (.int .u16) (some 256)] true, .live [.xs (.int .u16) (some 128)] true] }
  ks := [.int, .int, .int, .int, .xs, .xs, .xs]
  st := fun x => { tmps := [.one .any, .one (.sc (.ptr 0 0 none)), .one (.sc (.ptr 1 0 none)), .one (.sc (.ptr 2 0 none)), .one (.sc (.int .i64 x.1)), .one (.sc (.int .i64 x.2.1)), .one (.sc (.int .i64 x.2.2.1)), .one (.sc (.int .i64 x.2.2.2.1)), .one .any, .one .any, .one .any, .one .any, .one .any, .one .any, .one .any, .one .any, .one .any, .one .any, .one .any, .one .any, .one .any, .one .any, .one .any, .one .any, .one .any, .one .any, .one .any, .one .any, .one .any, .one .any, .one .any, .one .any, .one .any, .one .any, .one .any, .one .any, .one .any, .one .any, .one .any, .one .any, .one .any, .one .any, .one .any, .one .any, .one .any, .one .any, .one .any, .one .any, .one .any, .one .any, .one .any, .one .any, .one .any, .one .any, .one .any, .one .any, .one .any, .one .any, .one .any, .one .any, .one .any, .one .any, .one .any, .one .any, .one .any, .one .any, .one .any, .one .any, .one .any, .one .any, .one .any, .one .any], mem := [.live { segs := [.xs (.int .u16) 256 x.2.2.2.2.1], own := true }, .live { segs := [.xs (.int .u16) 256 x.2.2.2.2.2.1], own := true }, .live { segs := [.xs (.int .u16) 128 x.2.2.2.2.2.2.1], own := true }] }
noncomputable def p26_l11_F (N : Nat) (β : Type) (x : (Int × Int × Int × Int × List Int × List Int × List Int × Unit)) (kn : (Int × Int × Int × Int × List Int × List Int × List Int × Unit) → Option β) (ke : ((Int × Int × Int × List Int × List Int × List Int × Unit)) → Option β) : Option β :=
  if (x.2.2.2.1 < (IntKind.i64.wrap (x.2.2.1 + x.2.1))) then
    if 0 ≤ x.2.2.2.1 then (
    if x.2.2.2.1 < 256 then (
    if (x.2.2.2.1.toNat) < 256 then (
    if 0 ≤ (IntKind.i64.wrap (x.2.2.2.1 + x.2.1)) then (
    if (IntKind.i64.wrap (x.2.2.2.1 + x.2.1)) < 256 then (
    if ((IntKind.i64.wrap (x.2.2.2.1 + x.2.1)).toNat) < 256 then (
    if 0 ≤ x.1 then (
    if x.1 < 128 then (
    if (x.1.toNat) < 128 then (
    (g47 ((List.getD x.2.2.2.2.2.2.1 (x.1.toNat) 0), (Int.tmod (IntKind.u16.wrap ((IntKind.u16.wrap ((List.getD x.2.2.2.2.1 ((IntKind.i64.wrap (x.2.2.2.1 + x.2.1)).toNat) 0) + (3329:Int))) - (List.getD x.2.2.2.2.1 (x.2.2.2.1.toNat) 0))) (3329:Int)), ())).bind fun r3 => (
    if 0 ≤ x.2.2.2.1 then (
    if x.2.2.2.1 < 256 then (
    if (x.2.2.2.1.toNat) < 256 then (
    if 0 ≤ (IntKind.i64.wrap (x.2.2.2.1 + x.2.1)) then (
    if (IntKind.i64.wrap (x.2.2.2.1 + x.2.1)) < 256 then (
    if ((IntKind.i64.wrap (x.2.2.2.1 + x.2.1)).toNat) < 256 then (
    kn (x.1, x.2.1, x.2.2.1, (IntKind.i64.wrap (x.2.2.2.1 + (1:Int))), (List.set (List.set x.2.2.2.2.1 (x.2.2.2.1.toNat) (Int.tmod (IntKind.u16.wrap ((List.getD x.2.2.2.2.1 (x.2.2.2.1.toNat) 0) + (List.getD x.2.2.2.2.1 ((IntKind.i64.wrap (x.2.2.2.1 + x.2.1)).toNat) 0))) (3329:Int))) ((IntKind.i64.wrap (x.2.2.2.1 + x.2.1)).toNat) r3), x.2.2.2.2.2.1, x.2.2.2.2.2.2.1, ())) else none) else none) else none) else none) else none) else none)) else none) else none) else none) else none) else none) else none) else none) else none) else none
  else
    ke (x.1, x.2.1, x.2.2.1, x.2.2.2.2.1, x.2.2.2.2.2.1, x.2.2.2.2.2.2.1, ())
noncomputable def p26_l11_go : Go' ((Int × Int × Int × List Int × List Int × List Int × Unit)) := fun y K => K (.exit 4) { tmps := [.one .any, .one (.sc (.ptr 0 0 none)), .one (.sc (.ptr 1 0 none)), .one (.sc (.ptr 2 0 none)), .one (.sc (.int .i64 y.1)), .one (.sc (.int .i64 y.2.1)), .one (.sc (.int .i64 y.2.2.1)), .one .any, .one .any, .one .any, .one .any, .one .any, .one .any, .one .any, .one .any, .one .any, .one .any, .one .any, .one .any, .one .any, .one .any, .one .any, .one .any, .one .any, .one .any, .one .any, .one .any, .one .any, .one .any, .one .any, .one .any, .one .any, .one .any, .one .any, .one .any, .one .any, .one .any, .one .any, .one .any, .one .any, .one .any, .one .any, .one .any, .one .any, .one .any, .one .any, .one .any, .one .any, .one .any, .one .any, .one .any, .one .any, .one .any, .one .any, .one .any, .one .any, .one .any, .one .any, .one .any, .one .any, .one .any, .one .any, .one .any, .one .any, .one .any, .one .any, .one .any, .one .any, .one .any, .one .any, .one .any, .one .any], mem := [.live { segs := [.xs (.int .u16) 256 y.2.2.2.1], own := true }, .live { segs := [.xs (.int .u16) 256 y.2.2.2.2.1], own := true }, .live { segs := [.xs (.int .u16) 128 y.2.2.2.2.2.1], own := true }] }
noncomputable def p26_l11_L (N : Nat) : LT := upd (LT.nil) 11 (loopE p26_l11_S N (p26_l11_F N) p26_l11_go)
theorem p26_l11_ok (N : Nat) : OkAll p26_E p26_H N (p26_l11_L N) (subs p26_c) :=
  addLoop (c := theLoop 11 p26_c) (OkAll.nil) (by kernel_rfl) (fun x => by kernel_rfl) (fun β x kn ke => by kernel_rfl)
noncomputable def p26_l8_S : Shape where
  h := { tmps := [.any, .sc (.ptr 0 0 false), .sc (.ptr 1 0 false), .sc (.ptr 2 0 false), .sc (.int .i64), .sc (.int .i64), .sc (.int .i64), .any, .any, .any, .any, .any, .any, .any, .any, .any, .any, .any, .any, .any, .any, .any, .any, .any, .any, .any, .any, .any, .any, .any, .any, .any, .any, .any, .any, .any, .any, .any, .any, .any, .any, .any, .any, .any, .any, .any, .any, .any, .any, .any, .any, .any, .any, .any, .any, .any, .any, .any, .any, .any, .any, .any, .any, .any, .any, .any, .any, .any, .any, .any, .any, .any], mem := [.live [.xs (.int .u16) (some 256)] true, .live [.xs (.int .u16) (some 256)] true, .live [.xs (.int .u16) (some 128)] true] }
  ks := [.int, .int, .int, .xs, .xs, .xs]
  st := fun x => { tmps := [.one .any, .one (.sc (.ptr 0 0 none)), .one (.sc (.ptr 1 0 none)), .one (.sc (.ptr 2 0 none)), .one (.sc (.int .i64 x.1)), .one (.sc (.int .i64 x.2.1)), .one (.sc (.int .i64 x.2.2.1)), .one .any, .one .any, .one .any, .one .any, .one .any, .one .any, .one .any, .one .any, .one .any, .one .any, .one .any, .one .any, .one .any, .one .any, .one .any, .one .any, .one .any, .one .any, .one .any, .one .any, .one .any, .one .any, .one .any, .one .any, .one .any, .one .any, .one .any, .one .any, .one .any, .one .any, .one .any, .one .any, .one .any, .one .any, .one .any, .one .any, .one .any, .one .any, .one .any, .one .any, .one .any, .one .any, .one .any, .one .any, .one .any, .one .any, .one .any, .one .any, .one .any, .one .any, .one .any, .one .any, .one .any, .one .any, .one .any, .one .any, .one .any, .one .any, .one .any, .one .any, .one .any, .one .any, .one .any, .one .any, .one .any], mem := [.live { segs := [.xs (.int .u16) 256 x.2.2.2.1], own := true }, .live { segs := [.xs (.int .u16) 256 x.2.2.2.2.1], own := true }, .live { segs := [.xs (.int .u16) 128 x.2.2.2.2.2.1], own := true }] }
noncomputable def p26_l8_F (N : Nat) (β : Type) (x : (Int × Int × Int × List Int × List Int × List Int × Unit)) (kn : (Int × Int × Int × List Int × List Int × List Int × Unit) → Option β) (ke : ((Int × Int × List Int × List Int × List Int × Unit)) → Option β) : Option β :=
  if (x.2.2.1 < (256:Int)) then
    iter (p26_l11_F N) N (x.1, x.2.1, x.2.2.1, x.2.2.1, x.2.2.2.1, x.2.2.2.2.1, x.2.2.2.2.2.1, ()) fun y4 => (
    kn ((IntKind.i64.wrap (y4.1 - (1:Int))), y4.2.1, (IntKind.i64.wrap (y4.2.2.1 + (IntKind.i64.wrap ((2:Int) * y4.2.1)))), y4.2.2.2.1, y4.2.2.2.2.1, y4.2.2.2.2.2.1, ()))
  else
    ke (x.1, x.2.1, x.2.2.2.1, x.2.2.2.2.1, x.2.2.2.2.2.1, ())
noncomputable def p26_l8_go : Go' ((Int × Int × List Int × List Int × List Int × Unit)) := fun y K => K (.exit 2) { tmps := [.one .any, .one (.sc (.ptr 0 0 none)), .one (.sc (.ptr 1 0 none)), .one (.sc (.ptr 2 0 none)), .one (.sc (.int .i64 y.1)), .one (.sc (.int .i64 y.2.1)), .one .any, .one .any, .one .any, .one .any, .one .any, .one .any, .one .any, .one .any, .one .any, .one .any, .one .any, .one .any, .one .any, .one .any, .one .any, .one .any, .one .any, .one .any, .one .any, .one .any, .one .any, .one .any, .one .any, .one .any, .one .any, .one .any, .one .any, .one .any, .one .any, .one .any, .one .any, .one .any, .one .any, .one .any, .one .any, .one .any, .one .any, .one .any, .one .any, .one .any, .one .any, .one .any, .one .any, .one .any, .one .any, .one .any, .one .any, .one .any, .one .any, .one .any, .one .any, .one .any, .one .any, .one .any, .one .any, .one .any, .one .any, .one .any, .one .any, .one .any, .one .any, .one .any, .one .any, .one .any, .one .any, .one .any], mem := [.live { segs := [.xs (.int .u16) 256 y.2.2.1], own := true }, .live { segs := [.xs (.int .u16) 256 y.2.2.2.1], own := true }, .live { segs := [.xs (.int .u16) 128 y.2.2.2.2.1], own := true }] }
noncomputable def p26_l8_L (N : Nat) : LT := upd (p26_l11_L N) 8 (loopE p26_l8_S N (p26_l8_F N) p26_l8_go)
theorem p26_l8_ok (N : Nat) : OkAll p26_E p26_H N (p26_l8_L N) (subs p26_c) :=
  addLoop (c := theLoop 8 p26_c) (p26_l11_ok N) (by kernel_rfl) (fun x => by kernel_rfl) (fun β x kn ke => by kernel_rfl)
noncomputable def p26_l5_S : Shape where
  h := { tmps := [.any, .sc (.ptr 0 0 false), .sc (.ptr 1 0 false), .sc (.ptr 2 0 false), .sc (.int .i64), .sc (.int .i64), .any, .any, .any, .any, .any, .any, .any, .any, .any, .any, .any, .any, .any, .any, .any, .any, .any, .any, .any, .any, .any, .any, .any, .any, .any, .any, .any, .any, .any, .any, .any, .any, .any, .any, .any, .any, .any, .any, .any, .any, .any, .any, .any, .any, .any, .any, .any, .any, .any, .any, .any, .any, .any, .any, .any, .any, .any, .any, .any, .any, .any, .any, .any, .any, .any, .any], mem := [.live [.xs (.int .u16) (some 256)] true, .live [.xs (.int .u16) (some 256)] true, .live [.xs (.int .u16) (some 128)] true] }
  ks := [.int, .int, .xs, .xs, .xs]
  st := fun x => { tmps := [.one .any, .one (.sc (.ptr 0 0 none)), .one (.sc (.ptr 1 0 none)), .one (.sc (.ptr 2 0 none)), .one (.sc (.int .i64 x.1)), .one (.sc (.int .i64 x.2.1)), .one .any, .one .any, .one .any, .one .any, .one .any, .one .any, .one .any, .one .any, .one .any, .one .any, .one .any, .one .any, .one .any, .one .any, .one .any, .one .any, .one .any, .one .any, .one .any, .one .any, .one .any, .one .any, .one .any, .one .any, .one .any, .one .any, .one .any, .one .any, .one .any, .one .any, .one .any, .one .any, .one .any, .one .any, .one .any, .one .any, .one .any, .one .any, .one .any, .one .any, .one .any, .one .any, .one .any, .one .any, .one .any, .one .any, .one .any, .one .any, .one .any, .one .any, .one .any, .one .any, .one .any, .one .any, .one .any, .one .any, .one .any, .one .any, .one .any, .one .any, .one .any, .one .any, .one .any, .one .any, .one .any, .one .any], mem := [.live { segs := [.xs (.int .u16) 256 x.2.2.1], own := true }, .live { segs := [.xs (.int .u16) 256 x.2.2.2.1], own := true }, .live { segs := [.xs (.int .u16) 128 x.2.2.2.2.1], own := true }] }
noncomputable def p26_l5_F (N : Nat) (β : Type) (x : (Int × Int × List Int × List Int × List Int × Unit)) (kn : (Int × Int × List Int × List Int × List Int × Unit) → Option β) (ke : ((List Int × List Int × Unit)) → Option β) : Option β :=
  if (x.2.1 ≤ (128:Int)) then
    iter (p26_l8_F N) N (x.1, x.2.1, (0:Int), x.2.2.1, x.2.2.2.1, x.2.2.2.2.1, ()) fun y5 => (
    kn (y5.1, (IntKind.i64.wrap (y5.2.1 * (2:Int))), y5.2.2.1, y5.2.2.2.1, y5.2.2.2.2.1, ()))
  else
    ke (x.2.2.1, x.2.2.2.1, ())
noncomputable def p26_l5_go : Go' ((List Int × List Int × Unit)) := fun y K => K (.exit 0) { tmps := [.one .any, .one (.sc (.ptr 0 0 none)), .one (.sc (.ptr 1 0 none)), .one .any, .one .any, .one .any, .one .any, .one .any, .one .any, .one .any, .one .any, .one .any, .one .any, .one .any, .one .any, .one .any, .one .any, .one .any, .one .any, .one .any, .one .any, .one .any, .one .any, .one .any, .one .any, .one .any, .one .any, .one .any, .one .any, .one .any, .one .any, .one .any, .one .any, .one .any, .one .any, .one .any, .one .any, .one .any, .one .any, .one .any, .one .any, .one .any, .one .any, .one .any, .one .any, .one .any, .one .any, .one .any, .one .any, .one .any, .one .any, .one .any, .one .any, .one .any, .one .any, .one .any, .one .any, .one .any, .one .any, .one .any, .one .any, .one .any, .one .any, .one .any, .one .any, .one .any, .one .any, .one .any, .one .any, .one .any, .one .any, .one .any], mem := [.live { segs := [.xs (.int .u16) 256 y.1], own := true }, .live { segs := [.xs (.int .u16) 256 y.2.1], own := true }] }
noncomputable def p26_l5_L (N : Nat) : LT := upd (p26_l8_L N) 5 (loopE p26_l5_S N (p26_l5_F N) p26_l5_go)
theorem p26_l5_ok (N : Nat) : OkAll p26_E p26_H N (p26_l5_L N) (subs p26_c) :=
  addLoop (c := theLoop 5 p26_c) (p26_l8_ok N) (by kernel_rfl) (fun x => by kernel_rfl) (fun β x kn ke => by kernel_rfl)
noncomputable def p26_l17_S : Shape where
  h := { tmps := [.any, .sc (.ptr 0 0 false), .sc (.ptr 1 0 false), .any, .any, .any, .any, .any, .any, .any, .any, .any, .any, .any, .any, .any, .any, .any, .any, .any, .any, .any, .any, .any, .any, .any, .any, .any, .any, .any, .any, .any, .any, .any, .any, .any, .any, .any, .any, .any, .any, .any, .any, .any, .any, .any, .any, .any, .any, .any, .any, .any, .any, .any, .any, .any, .any, .any, .any, .any, .any, .sc (.int .i64), .any, .any, .any, .any, .any, .any, .any, .any, .any, .any], mem := [.live [.xs (.int .u16) (some 256)] true, .live [.xs (.int .u16) (some 256)] true] }
  ks := [.int, .xs, .xs]
  st := fun x => { tmps := [.one .any, .one (.sc (.ptr 0 0 none)), .one (.sc (.ptr 1 0 none)), .one .any, .one .any, .one .any, .one .any, .one .any, .one .any, .one .any, .one .any, .one .any, .one .any, .one .any, .one .any, .one .any, .one .any, .one .any, .one .any, .one .any, .one .any, .one .any, .one .any, .one .any, .one .any, .one .any, .one .any, .one .any, .one .any, .one .any, .one .any, .one .any, .one .any, .one .any, .one .any, .one .any, .one .any, .one .any, .one .any, .one .any, .one .any, .one .any, .one .any, .one .any, .one .any, .one .any, .one .any, .one .any, .one .any, .one .any, .one .any, .one .any, .one .any, .one .any, .one .any, .one .any, .one .any, .one .any, .one .any, .one .any, .one .any, .one (.sc (.int .i64 x.1)), .one .any, .one .any, .one .any, .one .any, .one .any, .one .any, .one .any, .one .any, .one .any, .one .any], mem := [.live { segs := [.xs (.int .u16) 256 x.2.1], own := true }, .live { segs := [.xs (.int .u16) 256 x.2.2.1], own := true }] }
noncomputable def p26_l17_F (N : Nat) (β : Type) (x : (Int × List Int × List Int × Unit)) (kn : (Int × List Int × List Int × Unit) → Option β) (ke : ((List Int × List Int × Unit)) → Option β) : Option β :=
  if (x.1 < (256:Int)) then
    if 0 ≤ x.1 then (
    if x.1 < 256 then (
    if (x.1.toNat) < 256 then (
    (g47 ((List.getD x.2.1 (x.1.toNat) 0), (3303:Int), ())).bind fun r7 => (
    if 0 ≤ x.1 then (
    if x.1 < 256 then (
    if (x.1.toNat) < 256 then (
    kn ((IntKind.i64.wrap (x.1 + (1:Int))), (List.set x.2.1 (x.1.toNat) r7), x.2.2.1, ())) else none) else none) else none)) else none) else none) else none
  else
    ke (x.2.1, x.2.2.1, ())
noncomputable def p26_l17_go : Go' ((List Int × List Int × Unit)) := fun y K => K (.exit 6) { tmps := [.one .any, .one (.sc (.ptr 0 0 none)), .one (.sc (.ptr 1 0 none)), .one .any, .one .any, .one .any, .one .any, .one .any, .one .any, .one .any, .one .any, .one .any, .one .any, .one .any, .one .any, .one .any, .one .any, .one .any, .one .any, .one .any, .one .any, .one .any, .one .any, .one .any, .one .any, .one .any, .one .any, .one .any, .one .any, .one .any, .one .any, .one .any, .one .any, .one .any, .one .any, .one .any, .one .any, .one .any, .one .any, .one .any, .one .any, .one .any, .one .any, .one .any, .one .any, .one .any, .one .any, .one .any, .one .any, .one .any, .one .any, .one .any, .one .any, .one .any, .one .any, .one .any, .one .any, .one .any, .one .any, .one .any, .one .any, .one .any, .one .any, .one .any, .one .any, .one .any, .one .any, .one .any, .one .any, .one .any, .one .any, .one .any], mem := [.live { segs := [.xs (.int .u16) 256 y.1], own := true }, .live { segs := [.xs (.int .u16) 256 y.2.1], own := true }] }
noncomputable def p26_l17_L (N : Nat) : LT := upd (p26_l5_L N) 17 (loopE p26_l17_S N (p26_l17_F N) p26_l17_go)
theorem p26_l17_ok (N : Nat) : OkAll p26_E p26_H N (p26_l17_L N) (subs p26_c) :=
  addLoop (c := theLoop 17 p26_c) (p26_l5_ok N) (by kernel_rfl) (fun x => by kernel_rfl) (fun β x kn ke => by kernel_rfl)
abbrev p26_ks : List Kd := [.xs (.int .u16) 256]
abbrev p26_rs : List Kd := [.xs (.int .u16) 256]
noncomputable def p26 (N : Nat) (x : List Int × Unit) : Option (List Int) :=
  (g37 (x.1, ())).bind fun r1 => (
  (g46 (())).bind fun r2 => (
  iter (p26_l5_F N) N ((127:Int), (2:Int), r1, (List.replicate 256 0), r2, ()) fun y6 => (
  iter (p26_l17_F N) N ((0:Int), y6.1, y6.2.1, ()) fun y8 => (
  some y8.1))))
theorem p26_eq (N : Nat) (x : Ds [.xs (.int .u16) 256]) : funL p26_E p26_H (p26_l17_L N) N Go.Proofs.Try.f26 p26_c [.xs (.int .u16) 256] [.xs (.int .u16) 256] x = p26 N x := by kernel_rfl
theorem p26_Eok (he37 : SigOk Go.Proofs.Try.prog 37 ⟨[.xs (.int .u16) 256], [.xs (.int .u16) 256], g37⟩) (he46 : SigOk Go.Proofs.Try.prog 46 ⟨[], [.xs (.int .u16) 128], g46⟩) (he47 : SigOk Go.Proofs.Try.prog 47 ⟨[.int .u16, .int .u16], [.int .u16], g47⟩) : p26_E.Ok Go.Proofs.Try.prog := AE.of_ok (all_cons ty22_ok (all_cons ty24_ok (all_cons ty48_ok all_nil))) (all_cons ⟨he37, enters37⟩ (all_cons ⟨he46, enters46⟩ (all_cons ⟨he47, enters47⟩ all_nil)))
theorem p26_ok (he37 : SigOk Go.Proofs.Try.prog 37 ⟨[.xs (.int .u16) 256], [.xs (.int .u16) 256], g37⟩) (he46 : SigOk Go.Proofs.Try.prog 46 ⟨[], [.xs (.int .u16) 128], g46⟩) (he47 : SigOk Go.Proofs.Try.prog 47 ⟨[.int .u16, .int .u16], [.int .u16], g47⟩) {g : Ds [.xs (.int .u16) 256] → Option (Rs [.xs (.int .u16) 256])} (hg : ∀ x r, g x = some r → ∃ N, p26 N x = some r) : SigOk Go.Proofs.Try.prog 26 ⟨[.xs (.int .u16) 256], [.xs (.int .u16) 256], g⟩ :=
  fun_of (E := p26_E) (H := p26_H) (L := fun N => p26_l17_L N) (c := p26_c) (ks := p26_ks) (rs := p26_rs) (F := p26) (p26_Eok he37 he46 he47) mix Go.Proofs.Try.func26 (by kernel_rfl) (fun N => p26_l17_ok N) p26_eq hg

/-! livery/ring.Mul -/
noncomputable def p28_E : AE := AE.of [(24, ty24)] [(24, ⟨[.xs (.int .u16) 256], [.xs (.int .u16) 256], g24⟩), (20, ⟨[.xs (.int .u16) 256, .xs (.int .u16) 256], [.xs (.int .u16) 256], g20⟩), (26, ⟨[.xs (.int .u16) 256], [.xs (.int .u16) 256], g26⟩)]
noncomputable def p28_H : Hints := [(3000000, [4])]
noncomputable def p28_c : Code := (Go.Proofs.Try.f28).body.getD .skip
abbrev p28_ks : List Kd := [.xs (.int .u16) 256, .xs (.int .u16) 256]
abbrev p28_rs : List Kd := [.xs (.int .u16) 256]
noncomputable def p28 (N : Nat) (x : List Int × List Int × Unit) : Option (List Int) :=
  (g24 (x.1, ())).bind fun r1 => (
  (g24 (x.2.1, ())).bind fun r2 => (
  (g20 (r1, r2, ())).bind fun r3 => (
  (g26 (r3, ())).bind fun r4 => (
  some r4))))
theorem p28_eq (N : Nat) (x : Ds [.xs (.int .u16) 256, .xs (.int .u16) 256]) : funL p28_E p28_H (LT.nil) N Go.Proofs.Try.f28 p28_c [.xs (.int .u16) 256, .xs (.int .u16) 256] [.xs (.int .u16) 256] x = p28 N x := by kernel_rfl
theorem p28_Eok (he24 : SigOk Go.Proofs.Try.prog 24 ⟨[.xs (.int .u16) 256], [.xs (.int .u16) 256], g24⟩) (he20 : SigOk Go.Proofs.Try.prog 20 ⟨[.xs (.int .u16) 256, .xs (.int .u16) 256], [.xs (.int .u16) 256], g20⟩) (he26 : SigOk Go.Proofs.Try.prog 26 ⟨[.xs (.int .u16) 256], [.xs (.int .u16) 256], g26⟩) : p28_E.Ok Go.Proofs.Try.prog := AE.of_ok (all_cons ty24_ok all_nil) (all_cons ⟨he24, enters24⟩ (all_cons ⟨he20, enters20⟩ (all_cons ⟨he26, enters26⟩ all_nil)))
theorem p28_ok (he24 : SigOk Go.Proofs.Try.prog 24 ⟨[.xs (.int .u16) 256], [.xs (.int .u16) 256], g24⟩) (he20 : SigOk Go.Proofs.Try.prog 20 ⟨[.xs (.int .u16) 256, .xs (.int .u16) 256], [.xs (.int .u16) 256], g20⟩) (he26 : SigOk Go.Proofs.Try.prog 26 ⟨[.xs (.int .u16) 256], [.xs (.int .u16) 256], g26⟩) {g : Ds [.xs (.int .u16) 256, .xs (.int .u16) 256] → Option (Rs [.xs (.int .u16) 256])} (hg : ∀ x r, g x = some r → ∃ N, p28 N x = some r) : SigOk Go.Proofs.Try.prog 28 ⟨[.xs (.int .u16) 256, .xs (.int .u16) 256], [.xs (.int .u16) 256], g⟩ :=
  fun_of (E := p28_E) (H := p28_H) (L := fun N => LT.nil) (c := p28_c) (ks := p28_ks) (rs := p28_rs) (F := p28) (p28_Eok he24 he20 he26) mix Go.Proofs.Try.func28 (by kernel_rfl) (fun N => OkAll.nil) p28_eq hg

/-! livery/ring.Add -/
noncomputable def p29_E : AE := AE.of [(22, ty22), (24, ty24)] [(37, ⟨[.xs (.int .u16) 256], [.xs (.int .u16) 256], g37⟩)]
noncomputable def p29_H : Hints := [(3, [2, 3, 4, 10]), (2000000, [2, 4]), (2000001, [2, 3, 4, 10]), (3000000, [4])]
noncomputable def p29_c : Code := (Go.Proofs.Try.f29).body.getD .skip
noncomputable def p29_l3_S : Shape where
  h := { tmps := [.any, .any, .sc (.ptr 0 0 false), .sc (.ptr 1 0 false), .sc (.ptr 2 0 false), .any, .any, .any, .any, .any, .sc (.int .i64), .any, .any, .any, .any, .any, .any, .any, .any, .any, .any, .any, .any, .any, .any], mem := [.live [.xs (.int .u16) (some 256)] true, .live [.xs (.int .u16) (some 256)] true, .live [.xs (.int .u16) (some 256)] true] }
  ks := [.int, .xs, .xs, .xs]
  st := fun x => { tmps := [.one .any, .one .any, .one (.sc (.ptr 0 0 none)), .one (.sc (.ptr 1 0 none)), .one (.sc (.ptr 2 0 none)), .one .any, .one .any, .one .any, .one .any, .one .any, .one (.sc (.int .i64 x.1)), .one .any, .one .any, .one .any, .one .any, .one .any, .one .any, .one .any, .one .any, .one .any, .one .any, .one .any, .one .any, .one .any, .one .any], mem := [.live { segs := [.xs (.int .u16) 256 x.2.1], own := true }, .live { segs := [.xs (.int .u16) 256 x.2.2.1], own := true }, .live { segs := [.xs (.int .u16) 256 x.2.2.2.1], own := true }] }
noncomputable def p29_l3_F (N : Nat) (β : Type) (x : (Int × List Int × List Int × List Int × Unit)) (kn : (Int × List Int × List Int × List Int × Unit) → Option β) (ke : ((List Int × List Int × Unit)) → Option β) : Option β :=
  if (x.1 < (256:Int)) then
    if 0 ≤ x.1 then (
    if x.1 < 256 then (
    if (x.1.toNat) < 256 then (
    if 0 ≤ x.1 then (
    if x.1 < 256 then (
    if (x.1.toNat) < 256 then (
    if 0 ≤ x.1 then (
    if x.1 < 256 then (
    if (x.1.toNat) < 256 then (
    kn ((IntKind.i64.wrap (x.1 + (1:Int))), (List.set x.2.1 (x.1.toNat) (Int.tmod (IntKind.u16.wrap ((List.getD x.2.1 (x.1.toNat) 0) + (List.getD x.2.2.1 (x.1.toNat) 0))) (3329:Int))), x.2.2.1, x.2.2.2.1, ())) else none) else none) else none) else none) else none) else none) else none) else none) else none
  else
    ke (x.2.1, x.2.2.2.1, ())
noncomputable def p29_l3_go : Go' ((List Int × List Int × Unit)) := fun y K => K (.exit 0) { tmps := [.one .any, .one .any, .one (.sc (.ptr 0 0 none)), .one .any, .one (.sc (.ptr 1 0 none)), .one .any, .one .any, .one .any, .one .any, .one .any, .one .any, .one .any, .one .any, .one .any, .one .any, .one .any, .one .any, .one .any, .one .any, .one .any, .one .any, .one .any, .one .any, .one .any, .one .any], mem := [.live { segs := [.xs (.int .u16) 256 y.1], own := true }, .live { segs := [.xs (.int .u16) 256 y.2.1], own := true }] }
noncomputable def p29_l3_L (N : Nat) : LT := upd (LT.nil) 3 (loopE p29_l3_S N (p29_l3_F N) p29_l3_go)
theorem p29_l3_ok (N : Nat) : OkAll p29_E p29_H N (p29_l3_L N) (subs p29_c) :=
  addLoop (c := theLoop 3 p29_c) (OkAll.nil) (by kernel_rfl) (fun x => by kernel_rfl) (fun β x kn ke => by kernel_rfl)
abbrev p29_ks : List Kd := [.xs (.int .u16) 256, .xs (.int .u16) 256]
abbrev p29_rs : List Kd := [.xs (.int .u16) 256]
noncomputable def p29 (N : Nat) (x : List Int × List Int × Unit) : Option (List Int) :=
  (g37 (x.1, ())).bind fun r1 => (
  (g37 (x.2.1, ())).bind fun r2 => (
  iter (p29_l3_F N) N ((0:Int), r1, r2, (List.replicate 256 0), ()) fun y3 => (
  some y3.1)))
theorem p29_eq (N : Nat) (x : Ds [.xs (.int .u16) 256, .xs (.int .u16) 256]) : funL p29_E p29_H (p29_l3_L N) N Go.Proofs.Try.f29 p29_c [.xs (.int .u16) 256, .xs (.int .u16) 256] [.xs (.int .u16) 256] x = p29 N x := by kernel_rfl
theorem p29_Eok (he37 : SigOk Go.Proofs.Try.prog 37 ⟨[.xs (.int .u16) 256], [.xs (.int .u16) 256], g37⟩) : p29_E.Ok Go.Proofs.Try.prog := AE.of_ok (all_cons ty22_ok (all_cons ty24_ok all_nil)) (all_cons ⟨he37, enters37⟩ all_nil)
theorem p29_ok (he37 : SigOk Go.Proofs.Try.prog 37 ⟨[.xs (.int .u16) 256], [.xs (.int .u16) 256], g37⟩) {g : Ds [.xs (.int .u16) 256, .xs (.int .u16) 256] → Option (Rs [.xs (.int .u16) 256])} (hg : ∀ x r, g x = some r → ∃ N, p29 N x = some r) : SigOk Go.Proofs.Try.prog 29 ⟨[.xs (.int .u16) 256, .xs (.int .u16) 256], [.xs (.int .u16) 256], g⟩ :=
  fun_of (E := p29_E) (H := p29_H) (L := fun N => p29_l3_L N) (c := p29_c) (ks := p29_ks) (rs := p29_rs) (F := p29) (p29_Eok he37) mix Go.Proofs.Try.func29 (by kernel_rfl) (fun N => p29_l3_ok N) p29_eq hg

/-! livery/liveryref13.Add -/
noncomputable def p39_E : AE := AE.of [(3, ty3), (22, ty22), (24, ty24)] []
noncomputable def p39_H : Hints := [(2, [2, 3, 4, 6]), (2000000, [2, 4]), (2000001, [2, 3, 4, 6]), (3000000, [4])]
noncomputable def p39_c : Code := (Go.Proofs.Try.f39).body.getD .skip
noncomputable def p39_l2_S : Shape where
  h := { tmps := [.any, .any, .sc (.ptr 0 0 false), .sc (.ptr 1 0 false), .sc (.ptr 2 0 false), .any, .sc (.int .i64), .any, .any, .any, .any, .any, .any, .any, .any, .any, .any, .any, .any, .any, .any, .any, .any, .any], mem := [.live [.xs (.int .u16) (some 256)] true, .live [.xs (.int .u16) (some 256)] true, .live [.xs (.int .u16) (some 256)] true] }
  ks := [.int, .xs, .xs, .xs]
  st := fun x => { tmps := [.one .any, .one .any, .one (.sc (.ptr 0 0 none)), .one (.sc (.ptr 1 0 none)), .one (.sc (.ptr 2 0 none)), .one .any, .one (.sc (.int .i64 x.1)), .one .any, .one .any, .one .any, .one .any, .one .any, .one .any, .one .any, .one .any, .one .any, .one .any, .one .any, .one .any, .one .any, .one .any, .one .any, .one .any, .one .any], mem := [.live { segs := [.xs (.int .u16) 256 x.2.1], own := true }, .live { segs := [.xs (.int .u16) 256 x.2.2.1], own := true }, .live { segs := [.xs (.int .u16) 256 x.2.2.2.1], own := true }] }
noncomputable def p39_l2_F (N : Nat) (β : Type) (x : (Int × List Int × List Int × List Int × Unit)) (kn : (Int × List Int × List Int × List Int × Unit) → Option β) (ke : ((List Int × List Int × Unit)) → Option β) : Option β :=
  if (x.1 < (256:Int)) then
    if 0 ≤ x.1 then (
    if x.1 < 256 then (
    if (x.1.toNat) < 256 then (
    if 0 ≤ x.1 then (
    if x.1 < 256 then (
    if (x.1.toNat) < 256 then (
    if 0 ≤ x.1 then (
    if x.1 < 256 then (
    if (x.1.toNat) < 256 then (
    kn ((IntKind.i64.wrap (x.1 + (1:Int))), (List.set x.2.1 (x.1.toNat) (IntKind.u16.wrap (Int.tmod (IntKind.i64.wrap ((IntKind.i64.wrap (List.getD x.2.1 (x.1.toNat) 0)) + (IntKind.i64.wrap (List.getD x.2.2.1 (x.1.toNat) 0)))) (3329:Int)))), x.2.2.1, x.2.2.2.1, ())) else none) else none) else none) else none) else none) else none) else none) else none) else none
  else
    ke (x.2.1, x.2.2.2.1, ())
noncomputable def p39_l2_go : Go' ((List Int × List Int × Unit)) := fun y K => K (.exit 0) { tmps := [.one .any, .one .any, .one (.sc (.ptr 0 0 none)), .one .any, .one (.sc (.ptr 1 0 none)), .one .any, .one .any, .one .any, .one .any, .one .any, .one .any, .one .any, .one .any, .one .any, .one .any, .one .any, .one .any, .one .any, .one .any, .one .any, .one .any, .one .any, .one .any, .one .any], mem := [.live { segs := [.xs (.int .u16) 256 y.1], own := true }, .live { segs := [.xs (.int .u16) 256 y.2.1], own := true }] }
noncomputable def p39_l2_L (N : Nat) : LT := upd (LT.nil) 2 (loopE p39_l2_S N (p39_l2_F N) p39_l2_go)
theorem p39_l2_ok (N : Nat) : OkAll p39_E p39_H N (p39_l2_L N) (subs p39_c) :=
  addLoop (c := theLoop 2 p39_c) (OkAll.nil) (by kernel_rfl) (fun x => by kernel_rfl) (fun β x kn ke => by kernel_rfl)
abbrev p39_ks : List Kd := [.xs (.int .u16) 256, .xs (.int .u16) 256]
abbrev p39_rs : List Kd := [.xs (.int .u16) 256]
noncomputable def p39 (N : Nat) (x : List Int × List Int × Unit) : Option (List Int) :=
  iter (p39_l2_F N) N ((0:Int), x.1, x.2.1, (List.replicate 256 0), ()) fun y1 => (
  some y1.1)
theorem p39_eq (N : Nat) (x : Ds [.xs (.int .u16) 256, .xs (.int .u16) 256]) : funL p39_E p39_H (p39_l2_L N) N Go.Proofs.Try.f39 p39_c [.xs (.int .u16) 256, .xs (.int .u16) 256] [.xs (.int .u16) 256] x = p39 N x := by kernel_rfl
theorem p39_Eok : p39_E.Ok Go.Proofs.Try.prog := AE.of_ok (all_cons ty3_ok (all_cons ty22_ok (all_cons ty24_ok all_nil))) all_nil
theorem p39_ok {g : Ds [.xs (.int .u16) 256, .xs (.int .u16) 256] → Option (Rs [.xs (.int .u16) 256])} (hg : ∀ x r, g x = some r → ∃ N, p39 N x = some r) : SigOk Go.Proofs.Try.prog 39 ⟨[.xs (.int .u16) 256, .xs (.int .u16) 256], [.xs (.int .u16) 256], g⟩ :=
  fun_of (E := p39_E) (H := p39_H) (L := fun N => p39_l2_L N) (c := p39_c) (ks := p39_ks) (rs := p39_rs) (F := p39) (p39_Eok) mix Go.Proofs.Try.func39 (by kernel_rfl) (fun N => p39_l2_ok N) p39_eq hg

/-! livery/ring.Sub -/
noncomputable def p40_E : AE := AE.of [(22, ty22), (24, ty24)] [(37, ⟨[.xs (.int .u16) 256], [.xs (.int .u16) 256], g37⟩)]
noncomputable def p40_H : Hints := [(3, [2, 3, 4, 10]), (2000000, [2, 4]), (2000001, [2, 3, 4, 10]), (3000000, [4])]
noncomputable def p40_c : Code := (Go.Proofs.Try.f40).body.getD .skip
noncomputable def p40_l3_S : Shape where
  h := { tmps := [.any, .any, .sc (.ptr 0 0 false), .sc (.ptr 1 0 false), .sc (.ptr 2 0 false), .any, .any, .any, .any, .any, .sc (.int .i64), .any, .any, .any, .any, .any, .any, .any, .any, .any, .any, .any, .any, .any, .any, .any], mem := [.live [.xs (.int .u16) (some 256)] true, .live [.xs (.int .u16) (some 256)] true, .live [.xs (.int .u16) (some 256)] true] }
  ks := [.int, .xs, .xs, .xs]
  st := fun x => { tmps := [.one .any, .one .any, .one (.sc (.ptr 0 0 none)), .one (.sc (.ptr 1 0 none)), .one (.sc (.ptr 2 0 none)), .one .any, .one .any, .one .any, .one .any, .one .any, .one (.sc (.int .i64 x.1)), .one .any, .one .any, .one .any, .one .any, .one .any, .one .any, .one .any, .one .any, .one .any, .one .any, .one .any, .one .any, .one .any, .one .any, .one .any], mem := [.live { segs := [.xs (.int .u16) 256 x.2.1], own := true }, .live { segs := [.xs (.int .u16) 256 x.2.2.1], own := true }, .live { segs := [.xs (.int .u16) 256 x.2.2.2.1], own := true }] }
noncomputable def p40_l3_F (N : Nat) (β : Type) (x : (Int × List Int × List Int × List Int × Unit)) (kn : (Int × List Int × List Int × List Int × Unit) → Option β) (ke : ((List Int × List Int × Unit)) → Option β) : Option β :=
  if (x.1 < (256:Int)) then
    if 0 ≤ x.1 then (
    if x.1 < 256 then (
    if (x.1.toNat) < 256 then (
    if 0 ≤ x.1 then (
    if x.1 < 256 then (
    if (x.1.toNat) < 256 then (
    if 0 ≤ x.1 then (
    if x.1 < 256 then (
    if (x.1.toNat) < 256 then (
    kn ((IntKind.i64.wrap (x.1 + (1:Int))), (List.set x.2.1 (x.1.toNat) (Int.tmod (IntKind.u16.wrap ((IntKind.u16.wrap ((List.getD x.2.1 (x.1.toNat) 0) + (3329:Int))) - (List.getD x.2.2.1 (x.1.toNat) 0))) (3329:Int))), x.2.2.1, x.2.2.2.1, ())) else none) else none) else none) else none) else none) else none) else none) else none) else none
  else
    ke (x.2.1, x.2.2.2.1, ())
noncomputable def p40_l3_go : Go' ((List Int × List Int × Unit)) := fun y K => K (.exit 0) { tmps := [.one .any, .one .any, .one (.sc (.ptr 0 0 none)), .one .any, .one (.sc (.ptr 1 0 none)), .one .any, .one .any, .one .any, .one .any, .one .any, .one .any, .one .any, .one .any, .one .any, .one .any, .one .any, .one .any, .one .any, .one .any, .one .any, .one .any, .one .any, .one .any, .one .any, .one .any, .one .any], mem := [.live { segs := [.xs (.int .u16) 256 y.1], own := true }, .live { segs := [.xs (.int .u16) 256 y.2.1], own := true }] }
noncomputable def p40_l3_L (N : Nat) : LT := upd (LT.nil) 3 (loopE p40_l3_S N (p40_l3_F N) p40_l3_go)
theorem p40_l3_ok (N : Nat) : OkAll p40_E p40_H N (p40_l3_L N) (subs p40_c) :=
  addLoop (c := theLoop 3 p40_c) (OkAll.nil) (by kernel_rfl) (fun x => by kernel_rfl) (fun β x kn ke => by kernel_rfl)
abbrev p40_ks : List Kd := [.xs (.int .u16) 256, .xs (.int .u16) 256]
abbrev p40_rs : List Kd := [.xs (.int .u16) 256]
noncomputable def p40 (N : Nat) (x : List Int × List Int × Unit) : Option (List Int) :=
  (g37 (x.1, ())).bind fun r1 => (
  (g37 (x.2.1, ())).bind fun r2 => (
  iter (p40_l3_F N) N ((0:Int), r1, r2, (List.replicate 256 0), ()) fun y3 => (
  some y3.1)))
theorem p40_eq (N : Nat) (x : Ds [.xs (.int .u16) 256, .xs (.int .u16) 256]) : funL p40_E p40_H (p40_l3_L N) N Go.Proofs.Try.f40 p40_c [.xs (.int .u16) 256, .xs (.int .u16) 256] [.xs (.int .u16) 256] x = p40 N x := by kernel_rfl
theorem p40_Eok (he37 : SigOk Go.Proofs.Try.prog 37 ⟨[.xs (.int .u16) 256], [.xs (.int .u16) 256], g37⟩) : p40_E.Ok Go.Proofs.Try.prog := AE.of_ok (all_cons ty22_ok (all_cons ty24_ok all_nil)) (all_cons ⟨he37, enters37⟩ all_nil)
theorem p40_ok (he37 : SigOk Go.Proofs.Try.prog 37 ⟨[.xs (.int .u16) 256], [.xs (.int .u16) 256], g37⟩) {g : Ds [.xs (.int .u16) 256, .xs (.int .u16) 256] → Option (Rs [.xs (.int .u16) 256])} (hg : ∀ x r, g x = some r → ∃ N, p40 N x = some r) : SigOk Go.Proofs.Try.prog 40 ⟨[.xs (.int .u16) 256, .xs (.int .u16) 256], [.xs (.int .u16) 256], g⟩ :=
  fun_of (E := p40_E) (H := p40_H) (L := fun N => p40_l3_L N) (c := p40_c) (ks := p40_ks) (rs := p40_rs) (F := p40) (p40_Eok he37) mix Go.Proofs.Try.func40 (by kernel_rfl) (fun N => p40_l3_ok N) p40_eq hg

/-! livery/liveryref13.Sub -/
noncomputable def p41_E : AE := AE.of [(3, ty3), (22, ty22), (24, ty24)] []
noncomputable def p41_H : Hints := [(2, [2, 3, 4, 6]), (2000000, [2, 4]), (2000001, [2, 3, 4, 6]), (3000000, [4])]
noncomputable def p41_c : Code := (Go.Proofs.Try.f41).body.getD .skip
noncomputable def p41_l2_S : Shape where
  h := { tmps := [.any, .any, .sc (.ptr 0 0 false), .sc (.ptr 1 0 false), .sc (.ptr 2 0 false), .any, .sc (.int .i64), .any, .any, .any, .any, .any, .any, .any, .any, .any, .any, .any, .any, .any, .any, .any, .any, .any, .any, .any, .any], mem := [.live [.xs (.int .u16) (some 256)] true, .live [.xs (.int .u16) (some 256)] true, .live [.xs (.int .u16) (some 256)] true] }
  ks := [.int, .xs, .xs, .xs]
  st := fun x => { tmps := [.one .any, .one .any, .one (.sc (.ptr 0 0 none)), .one (.sc (.ptr 1 0 none)), .one (.sc (.ptr 2 0 none)), .one .any, .one (.sc (.int .i64 x.1)), .one .any, .one .any, .one .any, .one .any, .one .any, .one .any, .one .any, .one .any, .one .any, .one .any, .one .any, .one .any, .one .any, .one .any, .one .any, .one .any, .one .any, .one .any, .one .any, .one .any], mem := [.live { segs := [.xs (.int .u16) 256 x.2.1], own := true }, .live { segs := [.xs (.int .u16) 256 x.2.2.1], own := true }, .live { segs := [.xs (.int .u16) 256 x.2.2.2.1], own := true }] }
noncomputable def p41_l2_F (N : Nat) (β : Type) (x : (Int × List Int × List Int × List Int × Unit)) (kn : (Int × List Int × List Int × List Int × Unit) → Option β) (ke : ((List Int × List Int × Unit)) → Option β) : Option β :=
  if (x.1 < (256:Int)) then
    if 0 ≤ x.1 then (
    if x.1 < 256 then (
    if (x.1.toNat) < 256 then (
    if 0 ≤ x.1 then (
    if x.1 < 256 then (
    if (x.1.toNat) < 256 then (
    if 0 ≤ x.1 then (
    if x.1 < 256 then (
    if (x.1.toNat) < 256 then (
    kn ((IntKind.i64.wrap (x.1 + (1:Int))), (List.set x.2.1 (x.1.toNat) (IntKind.u16.wrap (Int.tmod (IntKind.i64.wrap ((IntKind.i64.wrap ((IntKind.i64.wrap (Int.tmod (List.getD x.2.1 (x.1.toNat) 0) (3329:Int))) + (3329:Int))) - (IntKind.i64.wrap (Int.tmod (List.getD x.2.2.1 (x.1.toNat) 0) (3329:Int))))) (3329:Int)))), x.2.2.1, x.2.2.2.1, ())) else none) else none) else none) else none) else none) else none) else none) else none) else none
  else
    ke (x.2.1, x.2.2.2.1, ())
noncomputable def p41_l2_go : Go' ((List Int × List Int × Unit)) := fun y K => K (.exit 0) { tmps := [.one .any, .one .any, .one (.sc (.ptr 0 0 none)), .one .any, .one (.sc (.ptr 1 0 none)), .one .any, .one .any, .one .any, .one .any, .one .any, .one .any, .one .any, .one .any, .one .any, .one .any, .one .any, .one .any, .one .any, .one .any, .one .any, .one .any, .one .any, .one .any, .one .any, .one .any, .one .any, .one .any], mem := [.live { segs := [.xs (.int .u16) 256 y.1], own := true }, .live { segs := [.xs (.int .u16) 256 y.2.1], own := true }] }
noncomputable def p41_l2_L (N : Nat) : LT := upd (LT.nil) 2 (loopE p41_l2_S N (p41_l2_F N) p41_l2_go)
theorem p41_l2_ok (N : Nat) : OkAll p41_E p41_H N (p41_l2_L N) (subs p41_c) :=
  addLoop (c := theLoop 2 p41_c) (OkAll.nil) (by kernel_rfl) (fun x => by kernel_rfl) (fun β x kn ke => by kernel_rfl)
abbrev p41_ks : List Kd := [.xs (.int .u16) 256, .xs (.int .u16) 256]
abbrev p41_rs : List Kd := [.xs (.int .u16) 256]
noncomputable def p41 (N : Nat) (x : List Int × List Int × Unit) : Option (List Int) :=
  iter (p41_l2_F N) N ((0:Int), x.1, x.2.1, (List.replicate 256 0), ()) fun y1 => (
  some y1.1)
theorem p41_eq (N : Nat) (x : Ds [.xs (.int .u16) 256, .xs (.int .u16) 256]) : funL p41_E p41_H (p41_l2_L N) N Go.Proofs.Try.f41 p41_c [.xs (.int .u16) 256, .xs (.int .u16) 256] [.xs (.int .u16) 256] x = p41 N x := by kernel_rfl
theorem p41_Eok : p41_E.Ok Go.Proofs.Try.prog := AE.of_ok (all_cons ty3_ok (all_cons ty22_ok (all_cons ty24_ok all_nil))) all_nil
theorem p41_ok {g : Ds [.xs (.int .u16) 256, .xs (.int .u16) 256] → Option (Rs [.xs (.int .u16) 256])} (hg : ∀ x r, g x = some r → ∃ N, p41 N x = some r) : SigOk Go.Proofs.Try.prog 41 ⟨[.xs (.int .u16) 256, .xs (.int .u16) 256], [.xs (.int .u16) 256], g⟩ :=
  fun_of (E := p41_E) (H := p41_H) (L := fun N => p41_l2_L N) (c := p41_c) (ks := p41_ks) (rs := p41_rs) (F := p41) (p41_Eok) mix Go.Proofs.Try.func41 (by kernel_rfl) (fun N => p41_l2_ok N) p41_eq hg

/-! livery/liverylaw13.RingTurns -/
noncomputable def p8_E : AE := AE.of [(22, ty22), (24, ty24)] [(24, ⟨[.xs (.int .u16) 256], [.xs (.int .u16) 256], g24⟩), (18, ⟨[], [.bool], g18⟩), (28, ⟨[.xs (.int .u16) 256, .xs (.int .u16) 256], [.xs (.int .u16) 256], g28⟩), (20, ⟨[.xs (.int .u16) 256, .xs (.int .u16) 256], [.xs (.int .u16) 256], g20⟩), (29, ⟨[.xs (.int .u16) 256, .xs (.int .u16) 256], [.xs (.int .u16) 256], g29⟩), (26, ⟨[.xs (.int .u16) 256], [.xs (.int .u16) 256], g26⟩)]
noncomputable def p8_H : Hints := [(3000000, [4])]
noncomputable def p8_c : Code := (Go.Proofs.Try.f8).body.getD .skip
abbrev p8_ks : List Kd := [.xs (.int .u16) 256, .xs (.int .u16) 256]
abbrev p8_rs : List Kd := [.bool]
noncomputable def p8 (N : Nat) (x : List Int × List Int × Unit) : Option (Bool) :=
  (g24 (x.1, ())).bind fun r1 => (
  (g24 (x.2.1, ())).bind fun r2 => (
  (g18 (())).bind fun r3 => (
  if (r3 = true) then
    (g28 (x.1, x.2.1, ())).bind fun r4 => (
    (g24 (r4, ())).bind fun r5 => (
    (g20 (r1, r2, ())).bind fun r6 => (
    if (r5 = r6) then
      (g29 (x.1, x.2.1, ())).bind fun r7 => (
      (g24 (r7, ())).bind fun r8 => (
      (g29 (r1, r2, ())).bind fun r9 => (
      if (r8 = r9) then
        (g20 (r1, r2, ())).bind fun r10 => (
        (g26 (r10, ())).bind fun r11 => (
        (g28 (x.1, x.2.1, ())).bind fun r12 => (
        some (decide (r11 = r12)))))
      else
        some false)))
    else
      some false)))
  else
    some false)))
theorem p8_eq (N : Nat) (x : Ds [.xs (.int .u16) 256, .xs (.int .u16) 256]) : funL p8_E p8_H (LT.nil) N Go.Proofs.Try.f8 p8_c [.xs (.int .u16) 256, .xs (.int .u16) 256] [.bool] x = p8 N x := by kernel_rfl
theorem p8_Eok (he24 : SigOk Go.Proofs.Try.prog 24 ⟨[.xs (.int .u16) 256], [.xs (.int .u16) 256], g24⟩) (he18 : SigOk Go.Proofs.Try.prog 18 ⟨[], [.bool], g18⟩) (he28 : SigOk Go.Proofs.Try.prog 28 ⟨[.xs (.int .u16) 256, .xs (.int .u16) 256], [.xs (.int .u16) 256], g28⟩) (he20 : SigOk Go.Proofs.Try.prog 20 ⟨[.xs (.int .u16) 256, .xs (.int .u16) 256], [.xs (.int .u16) 256], g20⟩) (he29 : SigOk Go.Proofs.Try.prog 29 ⟨[.xs (.int .u16) 256, .xs (.int .u16) 256], [.xs (.int .u16) 256], g29⟩) (he26 : SigOk Go.Proofs.Try.prog 26 ⟨[.xs (.int .u16) 256], [.xs (.int .u16) 256], g26⟩) : p8_E.Ok Go.Proofs.Try.prog := AE.of_ok (all_cons ty22_ok (all_cons ty24_ok all_nil)) (all_cons ⟨he24, enters24⟩ (all_cons ⟨he18, enters18⟩ (all_cons ⟨he28, enters28⟩ (all_cons ⟨he20, enters20⟩ (all_cons ⟨he29, enters29⟩ (all_cons ⟨he26, enters26⟩ all_nil))))))
theorem p8_ok (he24 : SigOk Go.Proofs.Try.prog 24 ⟨[.xs (.int .u16) 256], [.xs (.int .u16) 256], g24⟩) (he18 : SigOk Go.Proofs.Try.prog 18 ⟨[], [.bool], g18⟩) (he28 : SigOk Go.Proofs.Try.prog 28 ⟨[.xs (.int .u16) 256, .xs (.int .u16) 256], [.xs (.int .u16) 256], g28⟩) (he20 : SigOk Go.Proofs.Try.prog 20 ⟨[.xs (.int .u16) 256, .xs (.int .u16) 256], [.xs (.int .u16) 256], g20⟩) (he29 : SigOk Go.Proofs.Try.prog 29 ⟨[.xs (.int .u16) 256, .xs (.int .u16) 256], [.xs (.int .u16) 256], g29⟩) (he26 : SigOk Go.Proofs.Try.prog 26 ⟨[.xs (.int .u16) 256], [.xs (.int .u16) 256], g26⟩) {g : Ds [.xs (.int .u16) 256, .xs (.int .u16) 256] → Option (Rs [.bool])} (hg : ∀ x r, g x = some r → ∃ N, p8 N x = some r) : SigOk Go.Proofs.Try.prog 8 ⟨[.xs (.int .u16) 256, .xs (.int .u16) 256], [.bool], g⟩ :=
  fun_of (E := p8_E) (H := p8_H) (L := fun N => LT.nil) (c := p8_c) (ks := p8_ks) (rs := p8_rs) (F := p8) (p8_Eok he24 he18 he28 he20 he29 he26) mix Go.Proofs.Try.func8 (by kernel_rfl) (fun N => OkAll.nil) p8_eq hg

/-! livery/liverylaw13.RingLaws -/
noncomputable def p11_E : AE := AE.of [(22, ty22), (24, ty24)] [(18, ⟨[], [.bool], g18⟩), (29, ⟨[.xs (.int .u16) 256, .xs (.int .u16) 256], [.xs (.int .u16) 256], g29⟩), (28, ⟨[.xs (.int .u16) 256, .xs (.int .u16) 256], [.xs (.int .u16) 256], g28⟩), (40, ⟨[.xs (.int .u16) 256, .xs (.int .u16) 256], [.xs (.int .u16) 256], g40⟩), (37, ⟨[.xs (.int .u16) 256], [.xs (.int .u16) 256], g37⟩)]
noncomputable def p11_H : Hints := [(3000000, [6])]
noncomputable def p11_c : Code := (Go.Proofs.Try.f11).body.getD .skip
abbrev p11_ks : List Kd := [.xs (.int .u16) 256, .xs (.int .u16) 256, .xs (.int .u16) 256]
abbrev p11_rs : List Kd := [.bool]
noncomputable def p11 (N : Nat) (x : List Int × List Int × List Int × Unit) : Option (Bool) :=
  (g18 (())).bind fun r1 => (
  if (¬ (r1 = true)) then
    some false
  else
    (g29 (x.1, x.2.1, ())).bind fun r2 => (
    (g29 (x.2.1, x.1, ())).bind fun r3 => (
    if (r2 ≠ r3) then
      some false
    else
      (g28 (x.1, x.2.1, ())).bind fun r4 => (
      (g28 (x.2.1, x.1, ())).bind fun r5 => (
      if (r4 ≠ r5) then
        some false
      else
        (g29 (x.1, x.2.1, ())).bind fun r6 => (
        (g40 (r6, x.2.1, ())).bind fun r7 => (
        (g37 (x.1, ())).bind fun r8 => (
        if (r7 ≠ r8) then
          some false
        else
          (g29 (x.1, x.2.1, ())).bind fun r9 => (
          (g29 (r9, x.2.2.1, ())).bind fun r10 => (
          (g29 (x.2.1, x.2.2.1, ())).bind fun r11 => (
          (g29 (x.1, r11, ())).bind fun r12 => (
          if (r10 = r12) then
            (g28 (x.1, x.2.1, ())).bind fun r13 => (
            (g28 (r13, x.2.2.1, ())).bind fun r14 => (
            (g28 (x.2.1, x.2.2.1, ())).bind fun r15 => (
            (g28 (x.1, r15, ())).bind fun r16 => (
            if (r14 = r16) then
              (g29 (x.2.1, x.2.2.1, ())).bind fun r17 => (
              (g28 (x.1, r17, ())).bind fun r18 => (
              (g28 (x.1, x.2.1, ())).bind fun r19 => (
              (g28 (x.1, x.2.2.1, ())).bind fun r20 => (
              (g29 (r19, r20, ())).bind fun r21 => (
              if (r18 = r21) then
                (g28 (x.1, (List.set (List.replicate 256 0) 0 (1:Int)), ())).bind fun r22 => (
                (g37 (x.1, ())).bind fun r23 => (
                some (decide (r22 = r23))))
              else
                some false)))))
            else
              some false))))
          else
            some false))))))))))))
theorem p11_eq (N : Nat) (x : Ds [.xs (.int .u16) 256, .xs (.int .u16) 256, .xs (.int .u16) 256]) : funL p11_E p11_H (LT.nil) N Go.Proofs.Try.f11 p11_c [.xs (.int .u16) 256, .xs (.int .u16) 256, .xs (.int .u16) 256] [.bool] x = p11 N x := by kernel_rfl
theorem p11_Eok (he18 : SigOk Go.Proofs.Try.prog 18 ⟨[], [.bool], g18⟩) (he29 : SigOk Go.Proofs.Try.prog 29 ⟨[.xs (.int .u16) 256, .xs (.int .u16) 256], [.xs (.int .u16) 256], g29⟩) (he28 : SigOk Go.Proofs.Try.prog 28 ⟨[.xs (.int .u16) 256, .xs (.int .u16) 256], [.xs (.int .u16) 256], g28⟩) (he40 : SigOk Go.Proofs.Try.prog 40 ⟨[.xs (.int .u16) 256, .xs (.int .u16) 256], [.xs (.int .u16) 256], g40⟩) (he37 : SigOk Go.Proofs.Try.prog 37 ⟨[.xs (.int .u16) 256], [.xs (.int .u16) 256], g37⟩) : p11_E.Ok Go.Proofs.Try.prog := AE.of_ok (all_cons ty22_ok (all_cons ty24_ok all_nil)) (all_cons ⟨he18, enters18⟩ (all_cons ⟨he29, enters29⟩ (all_cons ⟨he28, enters28⟩ (all_cons ⟨he40, enters40⟩ (all_cons ⟨he37, enters37⟩ all_nil)))))
theorem p11_ok (he18 : SigOk Go.Proofs.Try.prog 18 ⟨[], [.bool], g18⟩) (he29 : SigOk Go.Proofs.Try.prog 29 ⟨[.xs (.int .u16) 256, .xs (.int .u16) 256], [.xs (.int .u16) 256], g29⟩) (he28 : SigOk Go.Proofs.Try.prog 28 ⟨[.xs (.int .u16) 256, .xs (.int .u16) 256], [.xs (.int .u16) 256], g28⟩) (he40 : SigOk Go.Proofs.Try.prog 40 ⟨[.xs (.int .u16) 256, .xs (.int .u16) 256], [.xs (.int .u16) 256], g40⟩) (he37 : SigOk Go.Proofs.Try.prog 37 ⟨[.xs (.int .u16) 256], [.xs (.int .u16) 256], g37⟩) {g : Ds [.xs (.int .u16) 256, .xs (.int .u16) 256, .xs (.int .u16) 256] → Option (Rs [.bool])} (hg : ∀ x r, g x = some r → ∃ N, p11 N x = some r) : SigOk Go.Proofs.Try.prog 11 ⟨[.xs (.int .u16) 256, .xs (.int .u16) 256, .xs (.int .u16) 256], [.bool], g⟩ :=
  fun_of (E := p11_E) (H := p11_H) (L := fun N => LT.nil) (c := p11_c) (ks := p11_ks) (rs := p11_rs) (F := p11) (p11_Eok he18 he29 he28 he40 he37) mix Go.Proofs.Try.func11 (by kernel_rfl) (fun N => OkAll.nil) p11_eq hg
end Go.Ax.TryP
