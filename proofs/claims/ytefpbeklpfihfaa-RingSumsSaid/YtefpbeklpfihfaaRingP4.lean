/- A part of the proof: RingP4. -/
import Derived.Test.YtefpbeklpfihfaaRingS4
/-! Printed by program (gen.py). -/
set_option linter.unusedVariables false
namespace Go.Ax.TryP
/-! livery/liveryref13.Mul -/
noncomputable def p42_E : AE := AE.of [(3, ty3), (22, ty22), (24, ty24), (60, ty60)] []
noncomputable def p42_H : Hints := [(3, [2, 3, 4, 5, 10]), (6, [2, 3, 4, 5, 6, 10, 13]), (13, [4, 5, 8, 36]), (2000000, [4, 5]), (2000001, [2, 3, 4, 5, 10]), (2000002, [2, 3, 4, 5, 10]), (2000003, [2, 3, 4, 5, 6, 10, 13]), (2000004, [4, 8]), (2000005, [4, 5, 8, 36]), (3000000, [4])]
noncomputable def p42_c : Code := (Go.Proofs.Try.f42).body.getD .skip
noncomputable def p42_l6_S : Shape where
  h := { tmps := [.any, .any, .sc (.ptr 0 0 false), .sc (.ptr 1 0 false), .sc (.ptr 2 0 false), .sc (.ptr 3 0 false), .sc (.int .i64), .any, .any, .any, .sc (.int .i64), .any, .any, .sc (.int .i64), .any, .any, .any, .any, .any, .any, .any, .any, .any, .any, .any, .any, .any, .any, .any, .any, .any, .any, .any, .any, .any, .any, .any, .any, .any, .any, .any, .any, .any, .any, .any, .any, .any, .any, .any, .any, .any, .any, .any, .any, .any, .any], mem := [.live [.xs (.int .u16) (some 256)] true, .live [.xs (.int .u16) (some 256)] true, .live [.xs (.int .u16) (some 256)] true, .live [.xs (.int .i64) (some 512)] true] }
  ks := [.int, .int, .int, .xs, .xs, .xs, .xs]
  st := fun x => { tmps := [.one .any, .one .any, .one (.sc (.ptr 0 0 none)), .one (.sc (.ptr 1 0 none)), .one (.sc (.ptr 2 0 none)), .one (.sc (.ptr 3 0 none)), .one (.sc (.int .i64 x.1)), .one .any, .one .any, .one .any, .one (.sc (.int .i64 x.2.1)), .one .any, .one .any, .one (.sc (.int .i64 x.2.2.1)), .one .any, .one .any, .one .any, .one .any, .one .any, .one .any, .one .any, .one .any, .one .any, .one .any, .one .any, .one .any, .one .any, .one .any, .one .any, .one .any, .one .any, .one .any, .one .any, .one .any, .one .any, .one .any, .one .any, .one .any, .one .any, .one .any, .one .any, .one .any, .one .any, .one .any, .one .any, .one .any, .one .any, .one .any, .one .any, .one .any, .one .any, .one .any, .one .any, .one .any, .one .any, .one .any], mem := [.live { segs := [.xs (.int .u16) 256 x.2.2.2.1], own := true }, .live { segs := [.xs (.int .u16) 256 x.2.2.2.2.1], own := true }, .live { segs := [.xs (.int .u16) 256 x.2.2.2.2.2.1], own := true }, .live { segs := [.xs (.int .i64) 512 x.2.2.2.2.2.2.1], own := true }] }
noncomputable def p42_l6_F (N : Nat) (β : Type) (x : (Int × Int × Int × List Int × List Int × List Int × List Int × Unit)) (kn : (Int × Int × Int × List Int × List Int × List Int × List Int × Unit) → Option β) (ke : ((Int × List Int × List Int × List Int × List Int × Unit)) → Option β) : Option β :=
  if (x.2.2.1 < (256:Int)) then
    if 0 ≤ (IntKind.i64.wrap (x.1 + x.2.2.1)) then (
    if (IntKind.i64.wrap (x.1 + x.2.2.1)) < 512 then (
    if ((IntKind.i64.wrap (x.1 + x.2.2.1)).toNat) < 512 then (
    if 0 ≤ x.1 then (
    if x.1 < 256 then (
    if (x.1.toNat) < 256 then (
    if 0 ≤ x.2.2.1 then (
    if x.2.2.1 < 256 then (
    if (x.2.2.1.toNat) < 256 then (
    if 0 ≤ (IntKind.i64.wrap (x.1 + x.2.2.1)) then (
    if (IntKind.i64.wrap (x.1 + x.2.2.1)) < 512 then (
    if ((IntKind.i64.wrap (x.1 + x.2.2.1)).toNat) < 512 then (
    kn (x.1, x.2.1, (IntKind.i64.wrap (x.2.2.1 + (1:Int))), x.2.2.2.1, x.2.2.2.2.1, x.2.2.2.2.2.1, (List.set x.2.2.2.2.2.2.1 ((IntKind.i64.wrap (x.1 + x.2.2.1)).toNat) (IntKind.i64.wrap ((List.getD x.2.2.2.2.2.2.1 ((IntKind.i64.wrap (x.1 + x.2.2.1)).toNat) 0) + (IntKind.i64.wrap ((IntKind.i64.wrap (Int.tmod (List.getD x.2.2.2.1 (x.1.toNat) 0) (3329:Int))) * (IntKind.i64.wrap (Int.tmod (List.getD x.2.2.2.2.1 (x.2.2.1.toNat) 0) (3329:Int)))))))), ())) else none) else none) else none) else none) else none) else none) else none) else none) else none) else none) else none) else none
  else
    ke (x.2.1, x.2.2.2.1, x.2.2.2.2.1, x.2.2.2.2.2.1, x.2.2.2.2.2.2.1, ())
noncomputable def p42_l6_go : Go' ((Int × List Int × List Int × List Int × List Int × Unit)) := fun y K => K (.exit 2) { tmps := [.one .any, .one .any, .one (.sc (.ptr 0 0 none)), .one (.sc (.ptr 1 0 none)), .one (.sc (.ptr 2 0 none)), .one (.sc (.ptr 3 0 none)), .one .any, .one .any, .one .any, .one .any, .one (.sc (.int .i64 y.1)), .one .any, .one .any, .one .any, .one .any, .one .any, .one .any, .one .any, .one .any, .one .any, .one .any, .one .any, .one .any, .one .any, .one .any, .one .any, .one .any, .one .any, .one .any, .one .any, .one .any, .one .any, .one .any, .one .any, .one .any, .one .any, .one .any, .one .any, .one .any, .one .any, .one .any, .one .any, .one .any, .one .any, .one .any, .one .any, .one .any, .one .any, .one .any, .one .any, .one .any, .one .any, .one .any, .one .any, .one .any, .one .any], mem := [.live { segs := [.xs (.int .u16) 256 y.2.1], own := true }, .live { segs := [.xs (.int .u16) 256 y.2.2.1], own := true }, .live { segs := [.xs (.int .u16) 256 y.2.2.2.1], own := true }, .live { segs := [.xs (.int .i64) 512 y.2.2.2.2.1], own := true }] }
noncomputable def p42_l6_L (N : Nat) : LT := upd (LT.nil) 6 (loopE p42_l6_S N (p42_l6_F N) p42_l6_go)
theorem p42_l6_ok (N : Nat) : OkAll p42_E p42_H N (p42_l6_L N) (subs p42_c) :=
  addLoop (c := theLoop 6 p42_c) (OkAll.nil) (by kernel_rfl) (fun x => by kernel_rfl) (fun β x kn ke => by kernel_rfl)
noncomputable def p42_l3_S : Shape where
  h := { tmps := [.any, .any, .sc (.ptr 0 0 false), .sc (.ptr 1 0 false), .sc (.ptr 2 0 false), .sc (.ptr 3 0 false), .any, .any, .any, .any, .sc (.int .i64), .any, .any, .any, .any, .any, .any, .any, .any, .any, .any, .any, .any, .any, .any, .any, .any, .any, .any, .any, .any, .any, .any, .any, .any, .any, .any, .any, .any, .any, .any, .any, .any, .any, .any, .any, .any, .any, .any, .any, .any, .any, .any, .any, .any, .any], mem := [.live [.xs (.int .u16) (some 256)] true, .live [.xs (.int .u16) (some 256)] true, .live [.xs (.int .u16) (some 256)] true, .live [.xs (.int .i64) (some 512)] true] }
  ks := [.int, .xs, .xs, .xs, .xs]
  st := fun x => { tmps := [.one .any, .one .any, .one (.sc (.ptr 0 0 none)), .one (.sc (.ptr 1 0 none)), .one (.sc (.ptr 2 0 none)), .one (.sc (.ptr 3 0 none)), .one .any, .one .any, .one .any, .one .any, .one (.sc (.int .i64 x.1)), .one .any, .one .any, .one .any, .one .any, .one .any, .one .any, .one .any, .one .any, .one .any, .one .any, .one .any, .one .any, .one .any, .one .any, .one .any, .one .any, .one .any, .one .any, .one .any, .one .any, .one .any, .one .any, .one .any, .one .any, .one .any, .one .any, .one .any, .one .any, .one .any, .one .any, .one .any, .one .any, .one .any, .one .any, .one .any, .one .any, .one .any, .one .any, .one .any, .one .any, .one .any, .one .any, .one .any, .one .any, .one .any], mem := [.live { segs := [.xs (.int .u16) 256 x.2.1], own := true }, .live { segs := [.xs (.int .u16) 256 x.2.2.1], own := true }, .live { segs := [.xs (.int .u16) 256 x.2.2.2.1], own := true }, .live { segs := [.xs (.int .i64) 512 x.2.2.2.2.1], own := true }] }
noncomputable def p42_l3_F (N : Nat) (β : Type) (x : (Int × List Int × List Int × List Int × List Int × Unit)) (kn : (Int × List Int × List Int × List Int × List Int × Unit) → Option β) (ke : ((List Int × List Int × Unit)) → Option β) : Option β :=
  if (x.1 < (256:Int)) then
    iter (p42_l6_F N) N (x.1, x.1, (0:Int), x.2.1, x.2.2.1, x.2.2.2.1, x.2.2.2.2.1, ()) fun y1 => (
    kn ((IntKind.i64.wrap (y1.1 + (1:Int))), y1.2.1, y1.2.2.1, y1.2.2.2.1, y1.2.2.2.2.1, ()))
  else
    ke (x.2.2.2.1, x.2.2.2.2.1, ())
noncomputable def p42_l3_go : Go' ((List Int × List Int × Unit)) := fun y K => K (.exit 0) { tmps := [.one .any, .one .any, .one .any, .one .any, .one (.sc (.ptr 0 0 none)), .one (.sc (.ptr 1 0 none)), .one .any, .one .any, .one .any, .one .any, .one .any, .one .any, .one .any, .one .any, .one .any, .one .any, .one .any, .one .any, .one .any, .one .any, .one .any, .one .any, .one .any, .one .any, .one .any, .one .any, .one .any, .one .any, .one .any, .one .any, .one .any, .one .any, .one .any, .one .any, .one .any, .one .any, .one .any, .one .any, .one .any, .one .any, .one .any, .one .any, .one .any, .one .any, .one .any, .one .any, .one .any, .one .any, .one .any, .one .any, .one .any, .one .any, .one .any, .one .any, .one .any, .one .any], mem := [.live { segs := [.xs (.int .u16) 256 y.1], own := true }, .live { segs := [.xs (.int .i64) 512 y.2.1], own := true }] }
noncomputable def p42_l3_L (N : Nat) : LT := upd (p42_l6_L N) 3 (loopE p42_l3_S N (p42_l3_F N) p42_l3_go)
theorem p42_l3_ok (N : Nat) : OkAll p42_E p42_H N (p42_l3_L N) (subs p42_c) :=
  addLoop (c := theLoop 3 p42_c) (p42_l6_ok N) (by kernel_rfl) (fun x => by kernel_rfl) (fun β x kn ke => by kernel_rfl)
noncomputable def p42_l13_S : Shape where
  h := { tmps := [.any, .any, .any, .any, .sc (.ptr 0 0 false), .sc (.ptr 1 0 false), .any, .any, .sc (.ptr 2 0 false), .any, .any, .any, .any, .any, .any, .any, .any, .any, .any, .any, .any, .any, .any, .any, .any, .any, .any, .any, .any, .any, .any, .any, .any, .any, .any, .any, .sc (.int .i64), .any, .any, .any, .any, .any, .any, .any, .any, .any, .any, .any, .any, .any, .any, .any, .any, .any, .any, .any], mem := [.live [.xs (.int .u16) (some 256)] true, .live [.xs (.int .i64) (some 512)] true, .live [.xs (.int .u16) (some 256)] true] }
  ks := [.int, .xs, .xs, .xs]
  st := fun x => { tmps := [.one .any, .one .any, .one .any, .one .any, .one (.sc (.ptr 0 0 none)), .one (.sc (.ptr 1 0 none)), .one .any, .one .any, .one (.sc (.ptr 2 0 none)), .one .any, .one .any, .one .any, .one .any, .one .any, .one .any, .one .any, .one .any, .one .any, .one .any, .one .any, .one .any, .one .any, .one .any, .one .any, .one .any, .one .any, .one .any, .one .any, .one .any, .one .any, .one .any, .one .any, .one .any, .one .any, .one .any, .one .any, .one (.sc (.int .i64 x.1)), .one .any, .one .any, .one .any, .one .any, .one .any, .one .any, .one .any, .one .any, .one .any, .one .any, .one .any, .one .any, .one .any, .one .any, .one .any, .one .any, .one .any, .one .any, .one .any], mem := [.live { segs := [.xs (.int .u16) 256 x.2.1], own := true }, .live { segs := [.xs (.int .i64) 512 x.2.2.1], own := true }, .live { segs := [.xs (.int .u16) 256 x.2.2.2.1], own := true }] }
noncomputable def p42_l13_F (N : Nat) (β : Type) (x : (Int × List Int × List Int × List Int × Unit)) (kn : (Int × List Int × List Int × List Int × Unit) → Option β) (ke : ((List Int × List Int × Unit)) → Option β) : Option β :=
  if (x.1 < (256:Int)) then
    if 0 ≤ x.1 then (
    if x.1 < 512 then (
    if (x.1.toNat) < 512 then (
    if 0 ≤ (IntKind.i64.wrap (x.1 + (256:Int))) then (
    if (IntKind.i64.wrap (x.1 + (256:Int))) < 512 then (
    if ((IntKind.i64.wrap (x.1 + (256:Int))).toNat) < 512 then (
    if 0 ≤ x.1 then (
    if x.1 < 256 then (
    if (x.1.toNat) < 256 then (
    kn ((IntKind.i64.wrap (x.1 + (1:Int))), x.2.1, x.2.2.1, (List.set x.2.2.2.1 (x.1.toNat) (IntKind.u16.wrap (Int.tmod (IntKind.i64.wrap ((IntKind.i64.wrap ((Int.tmod (List.getD x.2.2.1 (x.1.toNat) 0) (3329:Int)) + (3329:Int))) - (Int.tmod (List.getD x.2.2.1 ((IntKind.i64.wrap (x.1 + (256:Int))).toNat) 0) (3329:Int)))) (3329:Int)))), ())) else none) else none) else none) else none) else none) else none) else none) else none) else none
  else
    ke (x.2.1, x.2.2.2.1, ())
noncomputable def p42_l13_go : Go' ((List Int × List Int × Unit)) := fun y K => K (.exit 4) { tmps := [.one .any, .one .any, .one .any, .one .any, .one (.sc (.ptr 0 0 none)), .one .any, .one .any, .one .any, .one (.sc (.ptr 1 0 none)), .one .any, .one .any, .one .any, .one .any, .one .any, .one .any, .one .any, .one .any, .one .any, .one .any, .one .any, .one .any, .one .any, .one .any, .one .any, .one .any, .one .any, .one .any, .one .any, .one .any, .one .any, .one .any, .one .any, .one .any, .one .any, .one .any, .one .any, .one .any, .one .any, .one .any, .one .any, .one .any, .one .any, .one .any, .one .any, .one .any, .one .any, .one .any, .one .any, .one .any, .one .any, .one .any, .one .any, .one .any, .one .any, .one .any, .one .any], mem := [.live { segs := [.xs (.int .u16) 256 y.1], own := true }, .live { segs := [.xs (.int .u16) 256 y.2.1], own := true }] }
noncomputable def p42_l13_L (N : Nat) : LT := upd (p42_l3_L N) 13 (loopE p42_l13_S N (p42_l13_F N) p42_l13_go)
theorem p42_l13_ok (N : Nat) : OkAll p42_E p42_H N (p42_l13_L N) (subs p42_c) :=
  addLoop (c := theLoop 13 p42_c) (p42_l3_ok N) (by kernel_rfl) (fun x => by kernel_rfl) (fun β x kn ke => by kernel_rfl)
abbrev p42_ks : List Kd := [.xs (.int .u16) 256, .xs (.int .u16) 256]
abbrev p42_rs : List Kd := [.xs (.int .u16) 256]
noncomputable def p42 (N : Nat) (x : List Int × List Int × Unit) : Option (List Int) :=
  iter (p42_l3_F N) N ((0:Int), x.1, x.2.1, (List.replicate 256 0), (List.replicate 512 0), ()) fun y2 => (
  iter (p42_l13_F N) N ((0:Int), y2.1, y2.2.1, (List.replicate 256 0), ()) fun y3 => (
  some y3.2.1))
theorem p42_eq (N : Nat) (x : Ds [.xs (.int .u16) 256, .xs (.int .u16) 256]) : funL p42_E p42_H (p42_l13_L N) N Go.Proofs.Try.f42 p42_c [.xs (.int .u16) 256, .xs (.int .u16) 256] [.xs (.int .u16) 256] x = p42 N x := by kernel_rfl
theorem p42_Eok : p42_E.Ok Go.Proofs.Try.prog := AE.of_ok (all_cons ty3_ok (all_cons ty22_ok (all_cons ty24_ok (all_cons ty60_ok all_nil)))) all_nil
theorem p42_ok {g : Ds [.xs (.int .u16) 256, .xs (.int .u16) 256] → Option (Rs [.xs (.int .u16) 256])} (hg : ∀ x r, g x = some r → ∃ N, p42 N x = some r) : SigOk Go.Proofs.Try.prog 42 ⟨[.xs (.int .u16) 256, .xs (.int .u16) 256], [.xs (.int .u16) 256], g⟩ :=
  fun_of (E := p42_E) (H := p42_H) (L := fun N => p42_l13_L N) (c := p42_c) (ks := p42_ks) (rs := p42_rs) (F := p42) (p42_Eok) mix Go.Proofs.Try.func42 (by kernel_rfl) (fun N => p42_l13_ok N) p42_eq hg

/-! livery/liverylaw13.RingSums -/
noncomputable def p10_E : AE := AE.of [(22, ty22), (24, ty24)] [(18, ⟨[], [.bool], g18⟩), (37, ⟨[.xs (.int .u16) 256], [.xs (.int .u16) 256], g37⟩), (38, ⟨[.xs (.int .u16) 256], [.xs (.int .u16) 256], g38⟩), (29, ⟨[.xs (.int .u16) 256, .xs (.int .u16) 256], [.xs (.int .u16) 256], g29⟩), (39, ⟨[.xs (.int .u16) 256, .xs (.int .u16) 256], [.xs (.int .u16) 256], g39⟩), (40, ⟨[.xs (.int .u16) 256, .xs (.int .u16) 256], [.xs (.int .u16) 256], g40⟩), (41, ⟨[.xs (.int .u16) 256, .xs (.int .u16) 256], [.xs (.int .u16) 256], g41⟩), (28, ⟨[.xs (.int .u16) 256, .xs (.int .u16) 256], [.xs (.int .u16) 256], g28⟩), (42, ⟨[.xs (.int .u16) 256, .xs (.int .u16) 256], [.xs (.int .u16) 256], g42⟩)]
noncomputable def p10_H : Hints := [(3000000, [4])]
noncomputable def p10_c : Code := (Go.Proofs.Try.f10).body.getD .skip
abbrev p10_ks : List Kd := [.xs (.int .u16) 256, .xs (.int .u16) 256]
abbrev p10_rs : List Kd := [.bool]
noncomputable def p10 (N : Nat) (x : List Int × List Int × Unit) : Option (Bool) :=
  (g18 (())).bind fun r1 => (
  if (r1 = true) then
    (g37 (x.1, ())).bind fun r2 => (
    (g38 (x.1, ())).bind fun r3 => (
    if (r2 = r3) then
      (g29 (x.1, x.2.1, ())).bind fun r4 => (
      (g39 (x.1, x.2.1, ())).bind fun r5 => (
      if (r4 = r5) then
        (g40 (x.1, x.2.1, ())).bind fun r6 => (
        (g41 (x.1, x.2.1, ())).bind fun r7 => (
        if (r6 = r7) then
          (g28 (x.1, x.2.1, ())).bind fun r8 => (
          (g42 (x.1, x.2.1, ())).bind fun r9 => (
          some (decide (r8 = r9))))
        else
          some false))
      else
        some false))
    else
      some false))
  else
    some false)
theorem p10_eq (N : Nat) (x : Ds [.xs (.int .u16) 256, .xs (.int .u16) 256]) : funL p10_E p10_H (LT.nil) N Go.Proofs.Try.f10 p10_c [.xs (.int .u16) 256, .xs (.int .u16) 256] [.bool] x = p10 N x := by kernel_rfl
theorem p10_Eok (he18 : SigOk Go.Proofs.Try.prog 18 ⟨[], [.bool], g18⟩) (he37 : SigOk Go.Proofs.Try.prog 37 ⟨[.xs (.int .u16) 256], [.xs (.int .u16) 256], g37⟩) (he38 : SigOk Go.Proofs.Try.prog 38 ⟨[.xs (.int .u16) 256], [.xs (.int .u16) 256], g38⟩) (he29 : SigOk Go.Proofs.Try.prog 29 ⟨[.xs (.int .u16) 256, .xs (.int .u16) 256], [.xs (.int .u16) 256], g29⟩) (he39 : SigOk Go.Proofs.Try.prog 39 ⟨[.xs (.int .u16) 256, .xs (.int .u16) 256], [.xs (.int .u16) 256], g39⟩) (he40 : SigOk Go.Proofs.Try.prog 40 ⟨[.xs (.int .u16) 256, .xs (.int .u16) 256], [.xs (.int .u16) 256], g40⟩) (he41 : SigOk Go.Proofs.Try.prog 41 ⟨[.xs (.int .u16) 256, .xs (.int .u16) 256], [.xs (.int .u16) 256], g41⟩) (he28 : SigOk Go.Proofs.Try.prog 28 ⟨[.xs (.int .u16) 256, .xs (.int .u16) 256], [.xs (.int .u16) 256], g28⟩) (he42 : SigOk Go.Proofs.Try.prog 42 ⟨[.xs (.int .u16) 256, .xs (.int .u16) 256], [.xs (.int .u16) 256], g42⟩) : p10_E.Ok Go.Proofs.Try.prog := AE.of_ok (all_cons ty22_ok (all_cons ty24_ok all_nil)) (all_cons ⟨he18, enters18⟩ (all_cons ⟨he37, enters37⟩ (all_cons ⟨he38, enters38⟩ (all_cons ⟨he29, enters29⟩ (all_cons ⟨he39, enters39⟩ (all_cons ⟨he40, enters40⟩ (all_cons ⟨he41, enters41⟩ (all_cons ⟨he28, enters28⟩ (all_cons ⟨he42, enters42⟩ all_nil)))))))))
theorem p10_ok (he18 : SigOk Go.Proofs.Try.prog 18 ⟨[], [.bool], g18⟩) (he37 : SigOk Go.Proofs.Try.prog 37 ⟨[.xs (.int .u16) 256], [.xs (.int .u16) 256], g37⟩) (he38 : SigOk Go.Proofs.Try.prog 38 ⟨[.xs (.int .u16) 256], [.xs (.int .u16) 256], g38⟩) (he29 : SigOk Go.Proofs.Try.prog 29 ⟨[.xs (.int .u16) 256, .xs (.int .u16) 256], [.xs (.int .u16) 256], g29⟩) (he39 : SigOk Go.Proofs.Try.prog 39 ⟨[.xs (.int .u16) 256, .xs (.int .u16) 256], [.xs (.int .u16) 256], g39⟩) (he40 : SigOk Go.Proofs.Try.prog 40 ⟨[.xs (.int .u16) 256, .xs (.int .u16) 256], [.xs (.int .u16) 256], g40⟩) (he41 : SigOk Go.Proofs.Try.prog 41 ⟨[.xs (.int .u16) 256, .xs (.int .u16) 256], [.xs (.int .u16) 256], g41⟩) (he28 : SigOk Go.Proofs.Try.prog 28 ⟨[.xs (.int .u16) 256, .xs (.int .u16) 256], [.xs (.int .u16) 256], g28⟩) (he42 : SigOk Go.Proofs.Try.prog 42 ⟨[.xs (.int .u16) 256, .xs (.int .u16) 256], [.xs (.int .u16) 256], g42⟩) {g : Ds [.xs (.int .u16) 256, .xs (.int .u16) 256] → Option (Rs [.bool])} (hg : ∀ x r, g x = some r → ∃ N, p10 N x = some r) : SigOk Go.Proofs.Try.prog 10 ⟨[.xs (.int .u16) 256, .xs (.int .u16) 256], [.bool], g⟩ :=
  fun_of (E := p10_E) (H := p10_H) (L := fun N => LT.nil) (c := p10_c) (ks := p10_ks) (rs := p10_rs) (F := p10) (p10_Eok he18 he37 he38 he29 he39 he40 he41 he28 he42) mix Go.Proofs.Try.func10 (by kernel_rfl) (fun N => OkAll.nil) p10_eq hg
end Go.Ax.TryP
