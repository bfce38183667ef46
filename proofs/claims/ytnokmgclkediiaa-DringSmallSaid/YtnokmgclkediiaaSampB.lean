/- A part of the proof: SampP2, SampQ7, SampQ8, SampQ9, SampQ10, SampW. -/
import Derived.Test.YtnokmgclkediiaaSampA
/-! Printed by program (gen.py). -/
set_option linter.unusedVariables false
namespace Go.Ax.TryP
/-! livery/dring.Ball -/
noncomputable def p_dring_Ball_E : AE := AE.of [(3, ty3), (5, ty5), (21, ty21), (23, ty23), (39, ty39), (80, ty80)] [(69, ⟨[.int .i64, .int .i64, .sls (.int .u8)], [.sl (.int .u8), .int .i64], g_keccak_Shake⟩)]
noncomputable def p_dring_Ball_H : Hints := [(10, [0, 4, 6, 7, 9, 10, 11]), (12, [0, 4, 6, 7, 9, 10, 11]), (2000000, [4]), (2000001, [0, 4, 6, 7, 9, 10, 11]), (2000002, [0, 4, 6, 7, 9, 10, 11]), (2000003, [0, 4, 6, 7, 9, 10, 11]), (3000000, [4, 5])]
noncomputable def p_dring_Ball_c : Code := (Go.Proofs.Try.f47).body.getD .skip
noncomputable def p_dring_Ball_l12_S : Shape where
  h := { tmps := [.sc (.int .i64), .any, .any, .any, .sc (.ptr 0 0 false), .any, .sc (.ptr 1 0 false), .sc (.sl 2 (some 8) none none 1), .any, .sc (.sl 2 (some 0) (some 8) none 1), .sc (.int .i64), .sc (.int .i64), .any, .any, .any, .any, .any, .any, .any, .any, .any, .any, .any, .any, .any, .any, .any, .any, .any, .any, .any, .any, .any, .any, .any, .any, .any, .any, .any, .any, .any, .any, .any, .any, .any, .any, .any, .any, .any, .any, .any, .any, .any, .any, .any, .any, .any, .any, .any, .any, .any, .any, .any, .any, .any, .any, .any, .any, .any, .any, .any, .any, .any, .any, .any, .any, .any, .any, .any, .any, .any, .any, .any, .any, .any, .any, .any, .any, .any, .any, .any, .any], mem := [.live [.xs (.int .i32) (some 256)] (.own), .live [.xs (.int .i32) (some 256)] (.own), .live [.xs (.int .u8) none] (.own)] }
  ks := [.int, .nat, .nat, .nat, .int, .int, .xs, .xs, .nat, .xs]
  st := fun x => { tmps := [.one (.sc (.int .i64 x.1)), .one .any, .one .any, .one .any, .one (.sc (.ptr 0 0 none)), .one .any, .one (.sc (.ptr 1 0 none)), .one (.sc (.sl 2 8 x.2.1 x.2.2.1 1)), .one .any, .one (.sc (.sl 2 0 8 x.2.2.2.1 1)), .one (.sc (.int .i64 x.2.2.2.2.1)), .one (.sc (.int .i64 x.2.2.2.2.2.1)), .one .any, .one .any, .one .any, .one .any, .one .any, .one .any, .one .any, .one .any, .one .any, .one .any, .one .any, .one .any, .one .any, .one .any, .one .any, .one .any, .one .any, .one .any, .one .any, .one .any, .one .any, .one .any, .one .any, .one .any, .one .any, .one .any, .one .any, .one .any, .one .any, .one .any, .one .any, .one .any, .one .any, .one .any, .one .any, .one .any, .one .any, .one .any, .one .any, .one .any, .one .any, .one .any, .one .any, .one .any, .one .any, .one .any, .one .any, .one .any, .one .any, .one .any, .one .any, .one .any, .one .any, .one .any, .one .any, .one .any, .one .any, .one .any, .one .any, .one .any, .one .any, .one .any, .one .any, .one .any, .one .any, .one .any, .one .any, .one .any, .one .any, .one .any, .one .any, .one .any, .one .any, .one .any, .one .any, .one .any, .one .any, .one .any, .one .any, .one .any], mem := [.live { segs := [.xs (.int .i32) 256 x.2.2.2.2.2.2.1], own := .own }, .live { segs := [.xs (.int .i32) 256 x.2.2.2.2.2.2.2.1], own := .own }, .live { segs := [.xs (.int .u8) x.2.2.2.2.2.2.2.2.1 x.2.2.2.2.2.2.2.2.2.1], own := .own }] }
noncomputable def p_dring_Ball_l12_F (N : Nat) (β : Type) (x : (Int × Nat × Nat × Nat × Int × Int × List Int × List Int × Nat × List Int × Unit)) (kn : (Int × Nat × Nat × Nat × Int × Int × List Int × List Int × Nat × List Int × Unit) → Option β) (ke : ((Int × Nat × Nat × Nat × Int × Int × List Int × List Int × Nat × List Int × Unit)) → Option β) : Option β :=
  if (x.2.2.2.2.1 < ((x.2.1 : Nat) : Int)) then
    if 0 ≤ x.2.2.2.2.1 then (
    if x.2.2.2.2.1 < ((x.2.1 : Nat) : Int) then (
    if (8 + (x.2.2.2.2.1.toNat)) < x.2.2.2.2.2.2.2.2.1 then (
    if ((IntKind.i64.wrap (List.getD x.2.2.2.2.2.2.2.2.2.1 (8 + (x.2.2.2.2.1.toNat)) 0)) > x.2.2.2.2.2.1) then
      kn (x.1, x.2.1, x.2.2.1, x.2.2.2.1, (IntKind.i64.wrap (x.2.2.2.2.1 + (1:Int))), x.2.2.2.2.2.1, x.2.2.2.2.2.2.1, x.2.2.2.2.2.2.2.1, x.2.2.2.2.2.2.2.2.1, x.2.2.2.2.2.2.2.2.2.1, ())
    else
      ke (x.1, x.2.1, x.2.2.1, x.2.2.2.1, x.2.2.2.2.1, x.2.2.2.2.2.1, x.2.2.2.2.2.2.1, x.2.2.2.2.2.2.2.1, x.2.2.2.2.2.2.2.2.1, x.2.2.2.2.2.2.2.2.2.1, ())) else none) else none) else none
  else
    ke (x.1, x.2.1, x.2.2.1, x.2.2.2.1, x.2.2.2.2.1, x.2.2.2.2.2.1, x.2.2.2.2.2.2.1, x.2.2.2.2.2.2.2.1, x.2.2.2.2.2.2.2.2.1, x.2.2.2.2.2.2.2.2.2.1, ())
noncomputable def p_dring_Ball_l12_go : Go' ((Int × Nat × Nat × Nat × Int × Int × List Int × List Int × Nat × List Int × Unit)) := fun y K => K (.exit 2) { tmps := [.one (.sc (.int .i64 y.1)), .one .any, .one .any, .one .any, .one (.sc (.ptr 0 0 none)), .one .any, .one (.sc (.ptr 1 0 none)), .one (.sc (.sl 2 8 y.2.1 y.2.2.1 1)), .one .any, .one (.sc (.sl 2 0 8 y.2.2.2.1 1)), .one (.sc (.int .i64 y.2.2.2.2.1)), .one (.sc (.int .i64 y.2.2.2.2.2.1)), .one .any, .one .any, .one .any, .one .any, .one .any, .one .any, .one .any, .one .any, .one .any, .one .any, .one .any, .one .any, .one .any, .one .any, .one .any, .one .any, .one .any, .one .any, .one .any, .one .any, .one .any, .one .any, .one .any, .one .any, .one .any, .one .any, .one .any, .one .any, .one .any, .one .any, .one .any, .one .any, .one .any, .one .any, .one .any, .one .any, .one .any, .one .any, .one .any, .one .any, .one .any, .one .any, .one .any, .one .any, .one .any, .one .any, .one .any, .one .any, .one .any, .one .any, .one .any, .one .any, .one .any, .one .any, .one .any, .one .any, .one .any, .one .any, .one .any, .one .any, .one .any, .one .any, .one .any, .one .any, .one .any, .one .any, .one .any, .one .any, .one .any, .one .any, .one .any, .one .any, .one .any, .one .any, .one .any, .one .any, .one .any, .one .any, .one .any, .one .any], mem := [.live { segs := [.xs (.int .i32) 256 y.2.2.2.2.2.2.1], own := .own }, .live { segs := [.xs (.int .i32) 256 y.2.2.2.2.2.2.2.1], own := .own }, .live { segs := [.xs (.int .u8) y.2.2.2.2.2.2.2.2.1 y.2.2.2.2.2.2.2.2.2.1], own := .own }] }
noncomputable def p_dring_Ball_l12_L (N : Nat) : LT := upd (LT.nil) 12 (loopE p_dring_Ball_l12_S N (p_dring_Ball_l12_F N) p_dring_Ball_l12_go)
theorem p_dring_Ball_l12_ok (N : Nat) : OkAll p_dring_Ball_E p_dring_Ball_H N (p_dring_Ball_l12_L N) (subs p_dring_Ball_c) :=
  addLoop (c := theLoop 12 p_dring_Ball_c) (OkAll.nil) (by kernel_rfl) (fun x => by kernel_rfl) (fun β x kn ke => by kernel_rfl)
noncomputable def p_dring_Ball_l10_S : Shape where
  h := { tmps := [.sc (.int .i64), .any, .any, .any, .sc (.ptr 0 0 false), .any, .sc (.ptr 1 0 false), .sc (.sl 2 (some 8) none none 1), .any, .sc (.sl 2 (some 0) (some 8) none 1), .sc (.int .i64), .sc (.int .i64), .any, .any, .any, .any, .any, .any, .any, .any, .any, .any, .any, .any, .any, .any, .any, .any, .any, .any, .any, .any, .any, .any, .any, .any, .any, .any, .any, .any, .any, .any, .any, .any, .any, .any, .any, .any, .any, .any, .any, .any, .any, .any, .any, .any, .any, .any, .any, .any, .any, .any, .any, .any, .any, .any, .any, .any, .any, .any, .any, .any, .any, .any, .any, .any, .any, .any, .any, .any, .any, .any, .any, .any, .any, .any, .any, .any, .any, .any, .any, .any], mem := [.live [.xs (.int .i32) (some 256)] (.own), .live [.xs (.int .i32) (some 256)] (.own), .live [.xs (.int .u8) none] (.own)] }
  ks := [.int, .nat, .nat, .nat, .int, .int, .xs, .xs, .nat, .xs]
  st := fun x => { tmps := [.one (.sc (.int .i64 x.1)), .one .any, .one .any, .one .any, .one (.sc (.ptr 0 0 none)), .one .any, .one (.sc (.ptr 1 0 none)), .one (.sc (.sl 2 8 x.2.1 x.2.2.1 1)), .one .any, .one (.sc (.sl 2 0 8 x.2.2.2.1 1)), .one (.sc (.int .i64 x.2.2.2.2.1)), .one (.sc (.int .i64 x.2.2.2.2.2.1)), .one .any, .one .any, .one .any, .one .any, .one .any, .one .any, .one .any, .one .any, .one .any, .one .any, .one .any, .one .any, .one .any, .one .any, .one .any, .one .any, .one .any, .one .any, .one .any, .one .any, .one .any, .one .any, .one .any, .one .any, .one .any, .one .any, .one .any, .one .any, .one .any, .one .any, .one .any, .one .any, .one .any, .one .any, .one .any, .one .any, .one .any, .one .any, .one .any, .one .any, .one .any, .one .any, .one .any, .one .any, .one .any, .one .any, .one .any, .one .any, .one .any, .one .any, .one .any, .one .any, .one .any, .one .any, .one .any, .one .any, .one .any, .one .any, .one .any, .one .any, .one .any, .one .any, .one .any, .one .any, .one .any, .one .any, .one .any, .one .any, .one .any, .one .any, .one .any, .one .any, .one .any, .one .any, .one .any, .one .any, .one .any, .one .any, .one .any, .one .any], mem := [.live { segs := [.xs (.int .i32) 256 x.2.2.2.2.2.2.1], own := .own }, .live { segs := [.xs (.int .i32) 256 x.2.2.2.2.2.2.2.1], own := .own }, .live { segs := [.xs (.int .u8) x.2.2.2.2.2.2.2.2.1 x.2.2.2.2.2.2.2.2.2.1], own := .own }] }
noncomputable def p_dring_Ball_l10_F (N : Nat) (β : Type) (x : (Int × Nat × Nat × Nat × Int × Int × List Int × List Int × Nat × List Int × Unit)) (kn : (Int × Nat × Nat × Nat × Int × Int × List Int × List Int × Nat × List Int × Unit) → Option β) (ke : ((List Int × Unit) ⊕ (Int × List Int × Unit)) → Option β) : Option β :=
  if (x.2.2.2.2.2.1 < (256:Int)) then
    iter (p_dring_Ball_l12_F N) N (x.1, x.2.1, x.2.2.1, x.2.2.2.1, x.2.2.2.2.1, x.2.2.2.2.2.1, x.2.2.2.2.2.2.1, x.2.2.2.2.2.2.2.1, x.2.2.2.2.2.2.2.2.1, x.2.2.2.2.2.2.2.2.2.1, ()) fun y2 => (
    if (y2.2.2.2.2.1 = ((y2.2.1 : Nat) : Int)) then
      ke (.inl (y2.2.2.2.2.2.2.1, ()))
    else
      if 0 ≤ y2.2.2.2.2.1 then (
      if y2.2.2.2.2.1 < ((y2.2.1 : Nat) : Int) then (
      if (8 + (y2.2.2.2.2.1.toNat)) < y2.2.2.2.2.2.2.2.2.1 then (
      if 0 ≤ (List.getD y2.2.2.2.2.2.2.2.2.2.1 (8 + (y2.2.2.2.2.1.toNat)) 0) then (
      if (List.getD y2.2.2.2.2.2.2.2.2.2.1 (8 + (y2.2.2.2.2.1.toNat)) 0) < 256 then (
      if ((List.getD y2.2.2.2.2.2.2.2.2.2.1 (8 + (y2.2.2.2.2.1.toNat)) 0).toNat) < 256 then (
      if 0 ≤ y2.2.2.2.2.2.1 then (
      if y2.2.2.2.2.2.1 < 256 then (
      if (y2.2.2.2.2.2.1.toNat) < 256 then (
      if 0 ≤ (List.getD y2.2.2.2.2.2.2.2.2.2.1 (8 + (y2.2.2.2.2.1.toNat)) 0) then (
      if (List.getD y2.2.2.2.2.2.2.2.2.2.1 (8 + (y2.2.2.2.2.1.toNat)) 0) < 256 then (
      if ((List.getD y2.2.2.2.2.2.2.2.2.2.1 (8 + (y2.2.2.2.2.1.toNat)) 0).toNat) < 256 then (
      if 0 ≤ (IntKind.i64.wrap (Int.tdiv (IntKind.i64.wrap ((IntKind.i64.wrap (y2.2.2.2.2.2.1 + y2.1)) - (256:Int))) (8:Int))) then (
      if (IntKind.i64.wrap (Int.tdiv (IntKind.i64.wrap ((IntKind.i64.wrap (y2.2.2.2.2.2.1 + y2.1)) - (256:Int))) (8:Int))) < (8:Int) then (
      if ((IntKind.i64.wrap (Int.tdiv (IntKind.i64.wrap ((IntKind.i64.wrap (y2.2.2.2.2.2.1 + y2.1)) - (256:Int))) (8:Int))).toNat) < y2.2.2.2.2.2.2.2.2.1 then (
      if (Int.tmod (IntKind.i64.wrap ((IntKind.i64.wrap (y2.2.2.2.2.2.1 + y2.1)) - (256:Int))) (8:Int)) < 0 then none else (
      if ((iand IntKind.u8 (ishr IntKind.u8 (List.getD y2.2.2.2.2.2.2.2.2.2.1 ((IntKind.i64.wrap (Int.tdiv (IntKind.i64.wrap ((IntKind.i64.wrap (y2.2.2.2.2.2.1 + y2.1)) - (256:Int))) (8:Int))).toNat) 0) (Int.tmod (IntKind.i64.wrap ((IntKind.i64.wrap (y2.2.2.2.2.2.1 + y2.1)) - (256:Int))) (8:Int))) (1:Int)) = (1:Int)) then
        if 0 ≤ (List.getD y2.2.2.2.2.2.2.2.2.2.1 (8 + (y2.2.2.2.2.1.toNat)) 0) then (
        if (List.getD y2.2.2.2.2.2.2.2.2.2.1 (8 + (y2.2.2.2.2.1.toNat)) 0) < 256 then (
        if ((List.getD y2.2.2.2.2.2.2.2.2.2.1 (8 + (y2.2.2.2.2.1.toNat)) 0).toNat) < 256 then (
        if (y2.2.2.2.2.2.1 = (255:Int)) then
          ke (.inr ((0:Int), (List.set (List.set (List.set y2.2.2.2.2.2.2.2.1 (y2.2.2.2.2.2.1.toNat) (List.getD y2.2.2.2.2.2.2.2.1 ((List.getD y2.2.2.2.2.2.2.2.2.2.1 (8 + (y2.2.2.2.2.1.toNat)) 0).toNat) 0)) ((List.getD y2.2.2.2.2.2.2.2.2.2.1 (8 + (y2.2.2.2.2.1.toNat)) 0).toNat) (1:Int)) ((List.getD y2.2.2.2.2.2.2.2.2.2.1 (8 + (y2.2.2.2.2.1.toNat)) 0).toNat) (8380416:Int)), ()))
        else
          kn (y2.1, y2.2.1, y2.2.2.1, y2.2.2.2.1, (IntKind.i64.wrap (y2.2.2.2.2.1 + (1:Int))), (IntKind.i64.wrap (y2.2.2.2.2.2.1 + (1:Int))), y2.2.2.2.2.2.2.1, (List.set (List.set (List.set y2.2.2.2.2.2.2.2.1 (y2.2.2.2.2.2.1.toNat) (List.getD y2.2.2.2.2.2.2.2.1 ((List.getD y2.2.2.2.2.2.2.2.2.2.1 (8 + (y2.2.2.2.2.1.toNat)) 0).toNat) 0)) ((List.getD y2.2.2.2.2.2.2.2.2.2.1 (8 + (y2.2.2.2.2.1.toNat)) 0).toNat) (1:Int)) ((List.getD y2.2.2.2.2.2.2.2.2.2.1 (8 + (y2.2.2.2.2.1.toNat)) 0).toNat) (8380416:Int)), y2.2.2.2.2.2.2.2.2.1, y2.2.2.2.2.2.2.2.2.2.1, ())) else none) else none) else none
      else
        if (y2.2.2.2.2.2.1 = (255:Int)) then
          ke (.inr ((0:Int), (List.set (List.set y2.2.2.2.2.2.2.2.1 (y2.2.2.2.2.2.1.toNat) (List.getD y2.2.2.2.2.2.2.2.1 ((List.getD y2.2.2.2.2.2.2.2.2.2.1 (8 + (y2.2.2.2.2.1.toNat)) 0).toNat) 0)) ((List.getD y2.2.2.2.2.2.2.2.2.2.1 (8 + (y2.2.2.2.2.1.toNat)) 0).toNat) (1:Int)), ()))
        else
          kn (y2.1, y2.2.1, y2.2.2.1, y2.2.2.2.1, (IntKind.i64.wrap (y2.2.2.2.2.1 + (1:Int))), (IntKind.i64.wrap (y2.2.2.2.2.2.1 + (1:Int))), y2.2.2.2.2.2.2.1, (List.set (List.set y2.2.2.2.2.2.2.2.1 (y2.2.2.2.2.2.1.toNat) (List.getD y2.2.2.2.2.2.2.2.1 ((List.getD y2.2.2.2.2.2.2.2.2.2.1 (8 + (y2.2.2.2.2.1.toNat)) 0).toNat) 0)) ((List.getD y2.2.2.2.2.2.2.2.2.2.1 (8 + (y2.2.2.2.2.1.toNat)) 0).toNat) (1:Int)), y2.2.2.2.2.2.2.2.2.1, y2.2.2.2.2.2.2.2.2.2.1, ()))) else none) else none) else none) else none) else none) else none) else none) else none) else none) else none) else none) else none) else none) else none) else none)
  else
    ke (.inl (x.2.2.2.2.2.2.1, ()))
noncomputable def p_dring_Ball_l10_go : Go' ((List Int × Unit) ⊕ (Int × List Int × Unit)) := fun y K => match y with
  | .inl y => K (.exit 0) { tmps := [.one .any, .one .any, .one .any, .one .any, .one (.sc (.ptr 0 0 none)), .one .any, .one .any, .one .any, .one .any, .one .any, .one .any, .one .any, .one .any, .one .any, .one .any, .one .any, .one .any, .one .any, .one .any, .one .any, .one .any, .one .any, .one .any, .one .any, .one .any, .one .any, .one .any, .one .any, .one .any, .one .any, .one .any, .one .any, .one .any, .one .any, .one .any, .one .any, .one .any, .one .any, .one .any, .one .any, .one .any, .one .any, .one .any, .one .any, .one .any, .one .any, .one .any, .one .any, .one .any, .one .any, .one .any, .one .any, .one .any, .one .any, .one .any, .one .any, .one .any, .one .any, .one .any, .one .any, .one .any, .one .any, .one .any, .one .any, .one .any, .one .any, .one .any, .one .any, .one .any, .one .any, .one .any, .one .any, .one .any, .one .any, .one .any, .one .any, .one .any, .one .any, .one .any, .one .any, .one .any, .one .any, .one .any, .one .any, .one .any, .one .any, .one .any, .one .any, .one .any, .one .any, .one .any, .one .any], mem := [.live { segs := [.xs (.int .i32) 256 y.1], own := .own }] }
  | .inr y => K .ret { tmps := [.one .any, .one .any, .one .any, .one .any, .one (.sc (.ptr 0 0 none)), .one (.sc (.int .i64 y.1)), .one .any, .one .any, .one .any, .one .any, .one .any, .one .any, .one .any, .one .any, .one .any, .one .any, .one .any, .one .any, .one .any, .one .any, .one .any, .one .any, .one .any, .one .any, .one .any, .one .any, .one .any, .one .any, .one .any, .one .any, .one .any, .one .any, .one .any, .one .any, .one .any, .one .any, .one .any, .one .any, .one .any, .one .any, .one .any, .one .any, .one .any, .one .any, .one .any, .one .any, .one .any, .one .any, .one .any, .one .any, .one .any, .one .any, .one .any, .one .any, .one .any, .one .any, .one .any, .one .any, .one .any, .one .any, .one .any, .one .any, .one .any, .one .any, .one .any, .one .any, .one .any, .one .any, .one .any, .one .any, .one .any, .one .any, .one .any, .one .any, .one .any, .one .any, .one .any, .one .any, .one .any, .one .any, .one .any, .one .any, .one .any, .one .any, .one .any, .one .any, .one .any, .one .any, .one .any, .one .any, .one .any, .one .any], mem := [.live { segs := [.xs (.int .i32) 256 y.2.1], own := .own }] }
noncomputable def p_dring_Ball_l10_L (N : Nat) : LT := upd (p_dring_Ball_l12_L N) 10 (loopE p_dring_Ball_l10_S N (p_dring_Ball_l10_F N) p_dring_Ball_l10_go)
theorem p_dring_Ball_l10_ok (N : Nat) : OkAll p_dring_Ball_E p_dring_Ball_H N (p_dring_Ball_l10_L N) (subs p_dring_Ball_c) :=
  addLoop (c := theLoop 10 p_dring_Ball_c) (p_dring_Ball_l12_ok N) (by kernel_rfl) (fun x => by kernel_rfl) (fun β x kn ke => by kernel_rfl)
abbrev p_dring_Ball_ks : List Kd := [.int .i64, .sl (.int .u8)]
abbrev p_dring_Ball_rs : List Kd := [.xs (.int .i32) 256, .int .i64]
noncomputable def p_dring_Ball (N : Nat) (x : Int × List Int × Unit) : Option (List Int × Int) :=
  if (x.1 < (1:Int)) then
    some ((List.replicate 256 0), (1:Int))
  else
    if (x.1 > (64:Int)) then
      some ((List.replicate 256 0), (1:Int))
    else
      (g_keccak_Shake ((256:Int), (1032:Int), [x.2.1], ())).bind fun r1 => (
      if (r1.2 ≠ (0:Int)) then
        some ((List.replicate 256 0), (130:Int))
      else
        if 8 ≤ (List.length r1.1) then (
        if 8 ≤ (List.length r1.1) then (
        iter (p_dring_Ball_l10_F N) N (x.1, ((List.length r1.1) - 8), ((List.length r1.1) - 8), (List.length r1.1), (0:Int), (IntKind.i64.wrap ((256:Int) - x.1)), (List.replicate 256 0), (List.replicate 256 0), (List.length r1.1), r1.1, ()) fun y => (match y with
        | .inl y3 => (
          some ((List.replicate 256 0), (130:Int)))
        | .inr y4 => (
          some (y4.2.1, y4.1)))) else none) else none)
theorem p_dring_Ball_eq (N : Nat) (x : Ds [.int .i64, .sl (.int .u8)]) : funL p_dring_Ball_E p_dring_Ball_H (p_dring_Ball_l10_L N) N Go.Proofs.Try.f47 p_dring_Ball_c [.int .i64, .sl (.int .u8)] [.xs (.int .i32) 256, .int .i64] x = p_dring_Ball N x := by kernel_rfl
theorem p_dring_Ball_Eok (he_keccak_Shake : SigOk Go.Proofs.Try.prog 69 ⟨[.int .i64, .int .i64, .sls (.int .u8)], [.sl (.int .u8), .int .i64], g_keccak_Shake⟩) : p_dring_Ball_E.Ok Go.Proofs.Try.prog := AE.of_ok (all_cons ty3_ok (all_cons ty5_ok (all_cons ty21_ok (all_cons ty23_ok (all_cons ty39_ok (all_cons ty80_ok all_nil)))))) (all_cons ⟨he_keccak_Shake, enters_keccak_Shake⟩ all_nil)
theorem p_dring_Ball_ok (he_keccak_Shake : SigOk Go.Proofs.Try.prog 69 ⟨[.int .i64, .int .i64, .sls (.int .u8)], [.sl (.int .u8), .int .i64], g_keccak_Shake⟩) {g : Ds [.int .i64, .sl (.int .u8)] → Option (Rs [.xs (.int .i32) 256, .int .i64])} (hg : ∀ x r, g x = some r → ∃ N, p_dring_Ball N x = some r) : SigOk Go.Proofs.Try.prog 47 ⟨[.int .i64, .sl (.int .u8)], [.xs (.int .i32) 256, .int .i64], g⟩ :=
  fun_of (E := p_dring_Ball_E) (H := p_dring_Ball_H) (L := fun N => p_dring_Ball_l10_L N) (c := p_dring_Ball_c) (ks := p_dring_Ball_ks) (rs := p_dring_Ball_rs) (F := p_dring_Ball) (p_dring_Ball_Eok he_keccak_Shake) mix Go.Proofs.Try.func47 (by kernel_rfl) (fun N => p_dring_Ball_l10_ok N) p_dring_Ball_eq hg

/-! livery/liveryref15.Ball -/
noncomputable def p_ref15_Ball_E : AE := AE.of [(3, ty3), (4, ty4), (5, ty5), (21, ty21), (23, ty23), (39, ty39), (77, ty77)] [(74, ⟨[.int .i64, .int .i64, .sl (.int .u8)], [.sl (.int .u8)], g_ref03_Shake⟩), (77, ⟨[.sl (.int .u8)], [.sl .bool], g_ref01_Bits⟩)]
noncomputable def p_ref15_Ball_H : Hints := [(8, [0, 4, 6, 7, 8, 9, 10]), (10, [0, 4, 6, 7, 8, 9, 10]), (2000000, [4, 8]), (2000001, [0, 4, 6, 7, 8, 9, 10]), (2000002, [0, 4, 6, 7, 8, 9, 10]), (2000003, [0, 4, 6, 7, 8, 9, 10]), (3000000, [4, 5])]
noncomputable def p_ref15_Ball_c : Code := (Go.Proofs.Try.f54).body.getD .skip
noncomputable def p_ref15_Ball_l10_S : Shape where
  h := { tmps := [.sc (.int .i64), .any, .any, .any, .sc (.ptr 0 0 false), .any, .sc (.vec 1 none 1), .sc (.vec 2 none 1), .sc (.ptr 3 0 false), .sc (.int .i64), .sc (.int .i64), .any, .any, .any, .any, .any, .any, .any, .any, .any, .any, .any, .any, .any, .any, .any, .any, .any, .any, .any, .any, .any, .any, .any, .any, .any, .any, .any, .any, .any, .any, .any, .any, .any, .any, .any, .any, .any, .any, .any, .any, .any, .any, .any, .any, .any, .any, .any, .any, .any, .any, .any, .any, .any, .any, .any, .any, .any, .any, .any, .any, .any, .any, .any], mem := [.live [.xs (.int .i32) (some 256)] (.own), .live [.xs (.int .u8) none] (.own), .live [.xs .bool none] (.own), .live [.xs (.int .i32) (some 256)] (.own)] }
  ks := [.int, .nat, .nat, .int, .int, .xs, .nat, .xs, .nat, .xs, .xs]
  st := fun x => { tmps := [.one (.sc (.int .i64 x.1)), .one .any, .one .any, .one .any, .one (.sc (.ptr 0 0 none)), .one .any, .one (.sc (.vec 1 x.2.1 1)), .one (.sc (.vec 2 x.2.2.1 1)), .one (.sc (.ptr 3 0 none)), .one (.sc (.int .i64 x.2.2.2.1)), .one (.sc (.int .i64 x.2.2.2.2.1)), .one .any, .one .any, .one .any, .one .any, .one .any, .one .any, .one .any, .one .any, .one .any, .one .any, .one .any, .one .any, .one .any, .one .any, .one .any, .one .any, .one .any, .one .any, .one .any, .one .any, .one .any, .one .any, .one .any, .one .any, .one .any, .one .any, .one .any, .one .any, .one .any, .one .any, .one .any, .one .any, .one .any, .one .any, .one .any, .one .any, .one .any, .one .any, .one .any, .one .any, .one .any, .one .any, .one .any, .one .any, .one .any, .one .any, .one .any, .one .any, .one .any, .one .any, .one .any, .one .any, .one .any, .one .any, .one .any, .one .any, .one .any, .one .any, .one .any, .one .any, .one .any, .one .any, .one .any], mem := [.live { segs := [.xs (.int .i32) 256 x.2.2.2.2.2.1], own := .own }, .live { segs := [.xs (.int .u8) x.2.2.2.2.2.2.1 x.2.2.2.2.2.2.2.1], own := .own }, .live { segs := [.xs .bool x.2.2.2.2.2.2.2.2.1 x.2.2.2.2.2.2.2.2.2.1], own := .own }, .live { segs := [.xs (.int .i32) 256 x.2.2.2.2.2.2.2.2.2.2.1], own := .own }] }
noncomputable def p_ref15_Ball_l10_F (N : Nat) (β : Type) (x : (Int × Nat × Nat × Int × Int × List Int × Nat × List Int × Nat × List Int × List Int × Unit)) (kn : (Int × Nat × Nat × Int × Int × List Int × Nat × List Int × Nat × List Int × List Int × Unit) → Option β) (ke : ((Int × Nat × Nat × Int × Int × List Int × Nat × List Int × Nat × List Int × List Int × Unit)) → Option β) : Option β :=
  if (x.2.2.2.1 < ((x.2.1 : Nat) : Int)) then
    if 0 ≤ x.2.2.2.1 then (
    if x.2.2.2.1 < ((x.2.1 : Nat) : Int) then (
    if (x.2.2.2.1.toNat) < x.2.2.2.2.2.2.1 then (
    if ((IntKind.i64.wrap (List.getD x.2.2.2.2.2.2.2.1 (x.2.2.2.1.toNat) 0)) > x.2.2.2.2.1) then
      kn (x.1, x.2.1, x.2.2.1, (IntKind.i64.wrap (x.2.2.2.1 + (1:Int))), x.2.2.2.2.1, x.2.2.2.2.2.1, x.2.2.2.2.2.2.1, x.2.2.2.2.2.2.2.1, x.2.2.2.2.2.2.2.2.1, x.2.2.2.2.2.2.2.2.2.1, x.2.2.2.2.2.2.2.2.2.2.1, ())
    else
      ke (x.1, x.2.1, x.2.2.1, x.2.2.2.1, x.2.2.2.2.1, x.2.2.2.2.2.1, x.2.2.2.2.2.2.1, x.2.2.2.2.2.2.2.1, x.2.2.2.2.2.2.2.2.1, x.2.2.2.2.2.2.2.2.2.1, x.2.2.2.2.2.2.2.2.2.2.1, ())) else none) else none) else none
  else
    ke (x.1, x.2.1, x.2.2.1, x.2.2.2.1, x.2.2.2.2.1, x.2.2.2.2.2.1, x.2.2.2.2.2.2.1, x.2.2.2.2.2.2.2.1, x.2.2.2.2.2.2.2.2.1, x.2.2.2.2.2.2.2.2.2.1, x.2.2.2.2.2.2.2.2.2.2.1, ())
noncomputable def p_ref15_Ball_l10_go : Go' ((Int × Nat × Nat × Int × Int × List Int × Nat × List Int × Nat × List Int × List Int × Unit)) := fun y K => K (.exit 2) { tmps := [.one (.sc (.int .i64 y.1)), .one .any, .one .any, .one .any, .one (.sc (.ptr 0 0 none)), .one .any, .one (.sc (.vec 1 y.2.1 1)), .one (.sc (.vec 2 y.2.2.1 1)), .one (.sc (.ptr 3 0 none)), .one (.sc (.int .i64 y.2.2.2.1)), .one (.sc (.int .i64 y.2.2.2.2.1)), .one .any, .one .any, .one .any, .one .any, .one .any, .one .any, .one .any, .one .any, .one .any, .one .any, .one .any, .one .any, .one .any, .one .any, .one .any, .one .any, .one .any, .one .any, .one .any, .one .any, .one .any, .one .any, .one .any, .one .any, .one .any, .one .any, .one .any, .one .any, .one .any, .one .any, .one .any, .one .any, .one .any, .one .any, .one .any, .one .any, .one .any, .one .any, .one .any, .one .any, .one .any, .one .any, .one .any, .one .any, .one .any, .one .any, .one .any, .one .any, .one .any, .one .any, .one .any, .one .any, .one .any, .one .any, .one .any, .one .any, .one .any, .one .any, .one .any, .one .any, .one .any, .one .any, .one .any], mem := [.live { segs := [.xs (.int .i32) 256 y.2.2.2.2.2.1], own := .own }, .live { segs := [.xs (.int .u8) y.2.2.2.2.2.2.1 y.2.2.2.2.2.2.2.1], own := .own }, .live { segs := [.xs .bool y.2.2.2.2.2.2.2.2.1 y.2.2.2.2.2.2.2.2.2.1], own := .own }, .live { segs := [.xs (.int .i32) 256 y.2.2.2.2.2.2.2.2.2.2.1], own := .own }] }
noncomputable def p_ref15_Ball_l10_L (N : Nat) : LT := upd (LT.nil) 10 (loopE p_ref15_Ball_l10_S N (p_ref15_Ball_l10_F N) p_ref15_Ball_l10_go)
theorem p_ref15_Ball_l10_ok (N : Nat) : OkAll p_ref15_Ball_E p_ref15_Ball_H N (p_ref15_Ball_l10_L N) (subs p_ref15_Ball_c) :=
  addLoop (c := theLoop 10 p_ref15_Ball_c) (OkAll.nil) (by kernel_rfl) (fun x => by kernel_rfl) (fun β x kn ke => by kernel_rfl)
noncomputable def p_ref15_Ball_l8_S : Shape where
  h := { tmps := [.sc (.int .i64), .any, .any, .any, .sc (.ptr 0 0 false), .any, .sc (.vec 1 none 1), .sc (.vec 2 none 1), .sc (.ptr 3 0 false), .sc (.int .i64), .sc (.int .i64), .any, .any, .any, .any, .any, .any, .any, .any, .any, .any, .any, .any, .any, .any, .any, .any, .any, .any, .any, .any, .any, .any, .any, .any, .any, .any, .any, .any, .any, .any, .any, .any, .any, .any, .any, .any, .any, .any, .any, .any, .any, .any, .any, .any, .any, .any, .any, .any, .any, .any, .any, .any, .any, .any, .any, .any, .any, .any, .any, .any, .any, .any, .any], mem := [.live [.xs (.int .i32) (some 256)] (.own), .live [.xs (.int .u8) none] (.own), .live [.xs .bool none] (.own), .live [.xs (.int .i32) (some 256)] (.own)] }
  ks := [.int, .nat, .nat, .int, .int, .xs, .nat, .xs, .nat, .xs, .xs]
  st := fun x => { tmps := [.one (.sc (.int .i64 x.1)), .one .any, .one .any, .one .any, .one (.sc (.ptr 0 0 none)), .one .any, .one (.sc (.vec 1 x.2.1 1)), .one (.sc (.vec 2 x.2.2.1 1)), .one (.sc (.ptr 3 0 none)), .one (.sc (.int .i64 x.2.2.2.1)), .one (.sc (.int .i64 x.2.2.2.2.1)), .one .any, .one .any, .one .any, .one .any, .one .any, .one .any, .one .any, .one .any, .one .any, .one .any, .one .any, .one .any, .one .any, .one .any, .one .any, .one .any, .one .any, .one .any, .one .any, .one .any, .one .any, .one .any, .one .any, .one .any, .one .any, .one .any, .one .any, .one .any, .one .any, .one .any, .one .any, .one .any, .one .any, .one .any, .one .any, .one .any, .one .any, .one .any, .one .any, .one .any, .one .any, .one .any, .one .any, .one .any, .one .any, .one .any, .one .any, .one .any, .one .any, .one .any, .one .any, .one .any, .one .any, .one .any, .one .any, .one .any, .one .any, .one .any, .one .any, .one .any, .one .any, .one .any, .one .any], mem := [.live { segs := [.xs (.int .i32) 256 x.2.2.2.2.2.1], own := .own }, .live { segs := [.xs (.int .u8) x.2.2.2.2.2.2.1 x.2.2.2.2.2.2.2.1], own := .own }, .live { segs := [.xs .bool x.2.2.2.2.2.2.2.2.1 x.2.2.2.2.2.2.2.2.2.1], own := .own }, .live { segs := [.xs (.int .i32) 256 x.2.2.2.2.2.2.2.2.2.2.1], own := .own }] }
noncomputable def p_ref15_Ball_l8_F (N : Nat) (β : Type) (x : (Int × Nat × Nat × Int × Int × List Int × Nat × List Int × Nat × List Int × List Int × Unit)) (kn : (Int × Nat × Nat × Int × Int × List Int × Nat × List Int × Nat × List Int × List Int × Unit) → Option β) (ke : ((Int × List Int × Unit) ⊕ (List Int × List Int × Unit)) → Option β) : Option β :=
  if (x.2.2.2.2.1 < (256:Int)) then
    iter (p_ref15_Ball_l10_F N) N (x.1, x.2.1, x.2.2.1, x.2.2.2.1, x.2.2.2.2.1, x.2.2.2.2.2.1, x.2.2.2.2.2.2.1, x.2.2.2.2.2.2.2.1, x.2.2.2.2.2.2.2.2.1, x.2.2.2.2.2.2.2.2.2.1, x.2.2.2.2.2.2.2.2.2.2.1, ()) fun y3 => (
    if (y3.2.2.2.1 = ((y3.2.1 : Nat) : Int)) then
      ke (.inl ((130:Int), (List.replicate 256 0), ()))
    else
      if 0 ≤ y3.2.2.2.1 then (
      if y3.2.2.2.1 < ((y3.2.1 : Nat) : Int) then (
      if (y3.2.2.2.1.toNat) < y3.2.2.2.2.2.2.1 then (
      if 0 ≤ (IntKind.i64.wrap (List.getD y3.2.2.2.2.2.2.2.1 (y3.2.2.2.1.toNat) 0)) then (
      if (IntKind.i64.wrap (List.getD y3.2.2.2.2.2.2.2.1 (y3.2.2.2.1.toNat) 0)) < 256 then (
      if ((IntKind.i64.wrap (List.getD y3.2.2.2.2.2.2.2.1 (y3.2.2.2.1.toNat) 0)).toNat) < 256 then (
      if 0 ≤ y3.2.2.2.2.1 then (
      if y3.2.2.2.2.1 < 256 then (
      if (y3.2.2.2.2.1.toNat) < 256 then (
      if 0 ≤ (IntKind.i64.wrap (List.getD y3.2.2.2.2.2.2.2.1 (y3.2.2.2.1.toNat) 0)) then (
      if (IntKind.i64.wrap (List.getD y3.2.2.2.2.2.2.2.1 (y3.2.2.2.1.toNat) 0)) < 256 then (
      if ((IntKind.i64.wrap (List.getD y3.2.2.2.2.2.2.2.1 (y3.2.2.2.1.toNat) 0)).toNat) < 256 then (
      if 0 ≤ (IntKind.i64.wrap ((IntKind.i64.wrap (y3.2.2.2.2.1 + y3.1)) - (256:Int))) then (
      if (IntKind.i64.wrap ((IntKind.i64.wrap (y3.2.2.2.2.1 + y3.1)) - (256:Int))) < ((y3.2.2.1 : Nat) : Int) then (
      if ((IntKind.i64.wrap ((IntKind.i64.wrap (y3.2.2.2.2.1 + y3.1)) - (256:Int))).toNat) < y3.2.2.2.2.2.2.2.2.1 then (
      if ((List.getD y3.2.2.2.2.2.2.2.2.2.1 ((IntKind.i64.wrap ((IntKind.i64.wrap (y3.2.2.2.2.1 + y3.1)) - (256:Int))).toNat) 0) ≠ 0) then
        if 0 ≤ (IntKind.i64.wrap (List.getD y3.2.2.2.2.2.2.2.1 (y3.2.2.2.1.toNat) 0)) then (
        if (IntKind.i64.wrap (List.getD y3.2.2.2.2.2.2.2.1 (y3.2.2.2.1.toNat) 0)) < 256 then (
        if ((IntKind.i64.wrap (List.getD y3.2.2.2.2.2.2.2.1 (y3.2.2.2.1.toNat) 0)).toNat) < 256 then (
        kn (y3.1, y3.2.1, y3.2.2.1, (IntKind.i64.wrap (y3.2.2.2.1 + (1:Int))), (IntKind.i64.wrap (y3.2.2.2.2.1 + (1:Int))), y3.2.2.2.2.2.1, y3.2.2.2.2.2.2.1, y3.2.2.2.2.2.2.2.1, y3.2.2.2.2.2.2.2.2.1, y3.2.2.2.2.2.2.2.2.2.1, (List.set (List.set (List.set y3.2.2.2.2.2.2.2.2.2.2.1 (y3.2.2.2.2.1.toNat) (List.getD y3.2.2.2.2.2.2.2.2.2.2.1 ((IntKind.i64.wrap (List.getD y3.2.2.2.2.2.2.2.1 (y3.2.2.2.1.toNat) 0)).toNat) 0)) ((IntKind.i64.wrap (List.getD y3.2.2.2.2.2.2.2.1 (y3.2.2.2.1.toNat) 0)).toNat) (1:Int)) ((IntKind.i64.wrap (List.getD y3.2.2.2.2.2.2.2.1 (y3.2.2.2.1.toNat) 0)).toNat) (8380416:Int)), ())) else none) else none) else none
      else
        kn (y3.1, y3.2.1, y3.2.2.1, (IntKind.i64.wrap (y3.2.2.2.1 + (1:Int))), (IntKind.i64.wrap (y3.2.2.2.2.1 + (1:Int))), y3.2.2.2.2.2.1, y3.2.2.2.2.2.2.1, y3.2.2.2.2.2.2.2.1, y3.2.2.2.2.2.2.2.2.1, y3.2.2.2.2.2.2.2.2.2.1, (List.set (List.set y3.2.2.2.2.2.2.2.2.2.2.1 (y3.2.2.2.2.1.toNat) (List.getD y3.2.2.2.2.2.2.2.2.2.2.1 ((IntKind.i64.wrap (List.getD y3.2.2.2.2.2.2.2.1 (y3.2.2.2.1.toNat) 0)).toNat) 0)) ((IntKind.i64.wrap (List.getD y3.2.2.2.2.2.2.2.1 (y3.2.2.2.1.toNat) 0)).toNat) (1:Int)), ())) else none) else none) else none) else none) else none) else none) else none) else none) else none) else none) else none) else none) else none) else none) else none)
  else
    ke (.inr (x.2.2.2.2.2.1, x.2.2.2.2.2.2.2.2.2.2.1, ()))
noncomputable def p_ref15_Ball_l8_go : Go' ((Int × List Int × Unit) ⊕ (List Int × List Int × Unit)) := fun y K => match y with
  | .inl y => K .ret { tmps := [.one .any, .one .any, .one .any, .one .any, .one (.sc (.ptr 0 0 none)), .one (.sc (.int .i64 y.1)), .one .any, .one .any, .one .any, .one .any, .one .any, .one .any, .one .any, .one .any, .one .any, .one .any, .one .any, .one .any, .one .any, .one .any, .one .any, .one .any, .one .any, .one .any, .one .any, .one .any, .one .any, .one .any, .one .any, .one .any, .one .any, .one .any, .one .any, .one .any, .one .any, .one .any, .one .any, .one .any, .one .any, .one .any, .one .any, .one .any, .one .any, .one .any, .one .any, .one .any, .one .any, .one .any, .one .any, .one .any, .one .any, .one .any, .one .any, .one .any, .one .any, .one .any, .one .any, .one .any, .one .any, .one .any, .one .any, .one .any, .one .any, .one .any, .one .any, .one .any, .one .any, .one .any, .one .any, .one .any, .one .any, .one .any, .one .any, .one .any], mem := [.live { segs := [.xs (.int .i32) 256 y.2.1], own := .own }] }
  | .inr y => K (.exit 0) { tmps := [.one .any, .one .any, .one .any, .one .any, .one (.sc (.ptr 0 0 none)), .one .any, .one .any, .one .any, .one (.sc (.ptr 1 0 none)), .one .any, .one .any, .one .any, .one .any, .one .any, .one .any, .one .any, .one .any, .one .any, .one .any, .one .any, .one .any, .one .any, .one .any, .one .any, .one .any, .one .any, .one .any, .one .any, .one .any, .one .any, .one .any, .one .any, .one .any, .one .any, .one .any, .one .any, .one .any, .one .any, .one .any, .one .any, .one .any, .one .any, .one .any, .one .any, .one .any, .one .any, .one .any, .one .any, .one .any, .one .any, .one .any, .one .any, .one .any, .one .any, .one .any, .one .any, .one .any, .one .any, .one .any, .one .any, .one .any, .one .any, .one .any, .one .any, .one .any, .one .any, .one .any, .one .any, .one .any, .one .any, .one .any, .one .any, .one .any, .one .any], mem := [.live { segs := [.xs (.int .i32) 256 y.1], own := .own }, .live { segs := [.xs (.int .i32) 256 y.2.1], own := .own }] }
noncomputable def p_ref15_Ball_l8_L (N : Nat) : LT := upd (p_ref15_Ball_l10_L N) 8 (loopE p_ref15_Ball_l8_S N (p_ref15_Ball_l8_F N) p_ref15_Ball_l8_go)
theorem p_ref15_Ball_l8_ok (N : Nat) : OkAll p_ref15_Ball_E p_ref15_Ball_H N (p_ref15_Ball_l8_L N) (subs p_ref15_Ball_c) :=
  addLoop (c := theLoop 8 p_ref15_Ball_c) (p_ref15_Ball_l10_ok N) (by kernel_rfl) (fun x => by kernel_rfl) (fun β x kn ke => by kernel_rfl)
abbrev p_ref15_Ball_ks : List Kd := [.int .i64, .sl (.int .u8)]
abbrev p_ref15_Ball_rs : List Kd := [.xs (.int .i32) 256, .int .i64]
noncomputable def p_ref15_Ball (N : Nat) (x : Int × List Int × Unit) : Option (List Int × Int) :=
  if (x.1 < (1:Int)) then
    some ((List.replicate 256 0), (1:Int))
  else
    if (x.1 > (64:Int)) then
      some ((List.replicate 256 0), (1:Int))
    else
      (g_ref03_Shake ((256:Int), (1032:Int), x.2.1, ())).bind fun r1 => (
      if 8 ≤ (List.length r1) then (
      (g_ref01_Bits ((List.take 8 (List.drop 0 r1)), ())).bind fun r2 => (
      iter (p_ref15_Ball_l8_F N) N (x.1, (List.length r1), (List.length r2), (8:Int), (IntKind.i64.wrap ((256:Int) - x.1)), (List.replicate 256 0), (List.length r1), r1, (List.length r2), r2, (List.replicate 256 0), ()) fun y => (match y with
      | .inl y4 => (
        some (y4.2.1, y4.1))
      | .inr y5 => (
        some (y5.2.1, (0:Int)))))) else none)
theorem p_ref15_Ball_eq (N : Nat) (x : Ds [.int .i64, .sl (.int .u8)]) : funL p_ref15_Ball_E p_ref15_Ball_H (p_ref15_Ball_l8_L N) N Go.Proofs.Try.f54 p_ref15_Ball_c [.int .i64, .sl (.int .u8)] [.xs (.int .i32) 256, .int .i64] x = p_ref15_Ball N x := by kernel_rfl
theorem p_ref15_Ball_Eok (he_ref03_Shake : SigOk Go.Proofs.Try.prog 74 ⟨[.int .i64, .int .i64, .sl (.int .u8)], [.sl (.int .u8)], g_ref03_Shake⟩) (he_ref01_Bits : SigOk Go.Proofs.Try.prog 77 ⟨[.sl (.int .u8)], [.sl .bool], g_ref01_Bits⟩) : p_ref15_Ball_E.Ok Go.Proofs.Try.prog := AE.of_ok (all_cons ty3_ok (all_cons ty4_ok (all_cons ty5_ok (all_cons ty21_ok (all_cons ty23_ok (all_cons ty39_ok (all_cons ty77_ok all_nil))))))) (all_cons ⟨he_ref03_Shake, enters_ref03_Shake⟩ (all_cons ⟨he_ref01_Bits, enters_ref01_Bits⟩ all_nil))
theorem p_ref15_Ball_ok (he_ref03_Shake : SigOk Go.Proofs.Try.prog 74 ⟨[.int .i64, .int .i64, .sl (.int .u8)], [.sl (.int .u8)], g_ref03_Shake⟩) (he_ref01_Bits : SigOk Go.Proofs.Try.prog 77 ⟨[.sl (.int .u8)], [.sl .bool], g_ref01_Bits⟩) {g : Ds [.int .i64, .sl (.int .u8)] → Option (Rs [.xs (.int .i32) 256, .int .i64])} (hg : ∀ x r, g x = some r → ∃ N, p_ref15_Ball N x = some r) : SigOk Go.Proofs.Try.prog 54 ⟨[.int .i64, .sl (.int .u8)], [.xs (.int .i32) 256, .int .i64], g⟩ :=
  fun_of (E := p_ref15_Ball_E) (H := p_ref15_Ball_H) (L := fun N => p_ref15_Ball_l8_L N) (c := p_ref15_Ball_c) (ks := p_ref15_Ball_ks) (rs := p_ref15_Ball_rs) (F := p_ref15_Ball) (p_ref15_Ball_Eok he_ref03_Shake he_ref01_Bits) mix Go.Proofs.Try.func54 (by kernel_rfl) (fun N => p_ref15_Ball_l8_ok N) p_ref15_Ball_eq hg

/-! livery/liverylaw15.DringSamples -/
noncomputable def p_law15_DringSamples_E : AE := AE.of [(21, ty21), (23, ty23), (39, ty39)] [(17, ⟨[], [.bool], g_law15_live⟩), (50, ⟨[.sl (.int .u8)], [.xs (.int .i32) 256, .int .i64], g_dring_RejNtt⟩), (51, ⟨[.sl (.int .u8)], [.xs (.int .i32) 256, .int .i64], g_ref15_RejNtt⟩), (48, ⟨[.int .i64, .sl (.int .u8)], [.xs (.int .i32) 256, .int .i64], g_dring_RejBounded⟩), (52, ⟨[.int .i64, .sl (.int .u8)], [.xs (.int .i32) 256, .int .i64], g_ref15_RejBounded⟩), (49, ⟨[.int .i64, .sl (.int .u8)], [.xs (.int .i32) 256, .int .i64], g_dring_Mask⟩), (53, ⟨[.int .i64, .sl (.int .u8)], [.xs (.int .i32) 256, .int .i64], g_ref15_Mask⟩), (47, ⟨[.int .i64, .sl (.int .u8)], [.xs (.int .i32) 256, .int .i64], g_dring_Ball⟩), (54, ⟨[.int .i64, .sl (.int .u8)], [.xs (.int .i32) 256, .int .i64], g_ref15_Ball⟩)]
noncomputable def p_law15_DringSamples_H : Hints := [(3000000, [4])]
noncomputable def p_law15_DringSamples_c : Code := (Go.Proofs.Try.f12).body.getD .skip
abbrev p_law15_DringSamples_ks : List Kd := [.int .i64, .sl (.int .u8)]
abbrev p_law15_DringSamples_rs : List Kd := [.bool]
noncomputable def p_law15_DringSamples (N : Nat) (x : Int × List Int × Unit) : Option (Bool) :=
  if ((((List.length x.2.1) : Nat) : Int) > (1000:Int)) then
    (g_law15_live (())).bind fun r1 => (
    some (decide (r1 = true)))
  else
    (g_dring_RejNtt (x.2.1, ())).bind fun r2 => (
    (g_ref15_RejNtt (x.2.1, ())).bind fun r3 => (
    (g_dring_RejBounded (x.1, x.2.1, ())).bind fun r4 => (
    (g_ref15_RejBounded (x.1, x.2.1, ())).bind fun r5 => (
    (g_law15_live (())).bind fun r6 => (
    if (¬ (r6 = true)) then
      some false
    else
      if (r2.1 ≠ r3.1) then
        some false
      else
        if (r2.2 ≠ r3.2) then
          some false
        else
          if (r4.1 ≠ r5.1) then
            some false
          else
            if (r4.2 ≠ r5.2) then
              some false
            else
              (g_dring_Mask (x.1, x.2.1, ())).bind fun r7 => (
              (g_ref15_Mask (x.1, x.2.1, ())).bind fun r8 => (
              (g_dring_Ball (x.1, x.2.1, ())).bind fun r9 => (
              (g_ref15_Ball (x.1, x.2.1, ())).bind fun r10 => (
              if (r7.1 = r8.1) then
                if (r7.2 = r8.2) then
                  if (r9.1 = r10.1) then
                    some (decide (r9.2 = r10.2))
                  else
                    some false
                else
                  some false
              else
                some false)))))))))
theorem p_law15_DringSamples_eq (N : Nat) (x : Ds [.int .i64, .sl (.int .u8)]) : funL p_law15_DringSamples_E p_law15_DringSamples_H (LT.nil) N Go.Proofs.Try.f12 p_law15_DringSamples_c [.int .i64, .sl (.int .u8)] [.bool] x = p_law15_DringSamples N x := by kernel_rfl
theorem p_law15_DringSamples_Eok (he_law15_live : SigOk Go.Proofs.Try.prog 17 ⟨[], [.bool], g_law15_live⟩) (he_dring_RejNtt : SigOk Go.Proofs.Try.prog 50 ⟨[.sl (.int .u8)], [.xs (.int .i32) 256, .int .i64], g_dring_RejNtt⟩) (he_ref15_RejNtt : SigOk Go.Proofs.Try.prog 51 ⟨[.sl (.int .u8)], [.xs (.int .i32) 256, .int .i64], g_ref15_RejNtt⟩) (he_dring_RejBounded : SigOk Go.Proofs.Try.prog 48 ⟨[.int .i64, .sl (.int .u8)], [.xs (.int .i32) 256, .int .i64], g_dring_RejBounded⟩) (he_ref15_RejBounded : SigOk Go.Proofs.Try.prog 52 ⟨[.int .i64, .sl (.int .u8)], [.xs (.int .i32) 256, .int .i64], g_ref15_RejBounded⟩) (he_dring_Mask : SigOk Go.Proofs.Try.prog 49 ⟨[.int .i64, .sl (.int .u8)], [.xs (.int .i32) 256, .int .i64], g_dring_Mask⟩) (he_ref15_Mask : SigOk Go.Proofs.Try.prog 53 ⟨[.int .i64, .sl (.int .u8)], [.xs (.int .i32) 256, .int .i64], g_ref15_Mask⟩) (he_dring_Ball : SigOk Go.Proofs.Try.prog 47 ⟨[.int .i64, .sl (.int .u8)], [.xs (.int .i32) 256, .int .i64], g_dring_Ball⟩) (he_ref15_Ball : SigOk Go.Proofs.Try.prog 54 ⟨[.int .i64, .sl (.int .u8)], [.xs (.int .i32) 256, .int .i64], g_ref15_Ball⟩) : p_law15_DringSamples_E.Ok Go.Proofs.Try.prog := AE.of_ok (all_cons ty21_ok (all_cons ty23_ok (all_cons ty39_ok all_nil))) (all_cons ⟨he_law15_live, enters_law15_live⟩ (all_cons ⟨he_dring_RejNtt, enters_dring_RejNtt⟩ (all_cons ⟨he_ref15_RejNtt, enters_ref15_RejNtt⟩ (all_cons ⟨he_dring_RejBounded, enters_dring_RejBounded⟩ (all_cons ⟨he_ref15_RejBounded, enters_ref15_RejBounded⟩ (all_cons ⟨he_dring_Mask, enters_dring_Mask⟩ (all_cons ⟨he_ref15_Mask, enters_ref15_Mask⟩ (all_cons ⟨he_dring_Ball, enters_dring_Ball⟩ (all_cons ⟨he_ref15_Ball, enters_ref15_Ball⟩ all_nil)))))))))
theorem p_law15_DringSamples_ok (he_law15_live : SigOk Go.Proofs.Try.prog 17 ⟨[], [.bool], g_law15_live⟩) (he_dring_RejNtt : SigOk Go.Proofs.Try.prog 50 ⟨[.sl (.int .u8)], [.xs (.int .i32) 256, .int .i64], g_dring_RejNtt⟩) (he_ref15_RejNtt : SigOk Go.Proofs.Try.prog 51 ⟨[.sl (.int .u8)], [.xs (.int .i32) 256, .int .i64], g_ref15_RejNtt⟩) (he_dring_RejBounded : SigOk Go.Proofs.Try.prog 48 ⟨[.int .i64, .sl (.int .u8)], [.xs (.int .i32) 256, .int .i64], g_dring_RejBounded⟩) (he_ref15_RejBounded : SigOk Go.Proofs.Try.prog 52 ⟨[.int .i64, .sl (.int .u8)], [.xs (.int .i32) 256, .int .i64], g_ref15_RejBounded⟩) (he_dring_Mask : SigOk Go.Proofs.Try.prog 49 ⟨[.int .i64, .sl (.int .u8)], [.xs (.int .i32) 256, .int .i64], g_dring_Mask⟩) (he_ref15_Mask : SigOk Go.Proofs.Try.prog 53 ⟨[.int .i64, .sl (.int .u8)], [.xs (.int .i32) 256, .int .i64], g_ref15_Mask⟩) (he_dring_Ball : SigOk Go.Proofs.Try.prog 47 ⟨[.int .i64, .sl (.int .u8)], [.xs (.int .i32) 256, .int .i64], g_dring_Ball⟩) (he_ref15_Ball : SigOk Go.Proofs.Try.prog 54 ⟨[.int .i64, .sl (.int .u8)], [.xs (.int .i32) 256, .int .i64], g_ref15_Ball⟩) {g : Ds [.int .i64, .sl (.int .u8)] → Option (Rs [.bool])} (hg : ∀ x r, g x = some r → ∃ N, p_law15_DringSamples N x = some r) : SigOk Go.Proofs.Try.prog 12 ⟨[.int .i64, .sl (.int .u8)], [.bool], g⟩ :=
  fun_of (E := p_law15_DringSamples_E) (H := p_law15_DringSamples_H) (L := fun N => LT.nil) (c := p_law15_DringSamples_c) (ks := p_law15_DringSamples_ks) (rs := p_law15_DringSamples_rs) (F := p_law15_DringSamples) (p_law15_DringSamples_Eok he_law15_live he_dring_RejNtt he_ref15_RejNtt he_dring_RejBounded he_ref15_RejBounded he_dring_Mask he_ref15_Mask he_dring_Ball he_ref15_Ball) mix Go.Proofs.Try.func12 (by kernel_rfl) (fun N => OkAll.nil) p_law15_DringSamples_eq hg

/-! livery/liverylaw15.DringSmall -/
noncomputable def p_law15_DringSmall_E : AE := AE.of [(3, ty3), (21, ty21), (23, ty23), (39, ty39), (50, ty50), (51, ty51)] [(17, ⟨[], [.bool], g_law15_live⟩), (47, ⟨[.int .i64, .sl (.int .u8)], [.xs (.int .i32) 256, .int .i64], g_dring_Ball⟩), (19, ⟨[.xs (.int .i32) 256], [.int .i32], g_dring_Norm⟩), (48, ⟨[.int .i64, .sl (.int .u8)], [.xs (.int .i32) 256, .int .i64], g_dring_RejBounded⟩), (49, ⟨[.int .i64, .sl (.int .u8)], [.xs (.int .i32) 256, .int .i64], g_dring_Mask⟩)]
noncomputable def p_law15_DringSmall_H : Hints := [(8, [0, 3, 4, 5, 34]), (16, [0, 55, 56, 57]), (23, [0, 77, 78, 79]), (2000000, [0, 3, 4, 5]), (2000001, [0, 3, 4, 5, 34]), (2000002, [0]), (2000003, [0, 55, 56, 57]), (2000004, []), (2000005, [0, 77, 78, 79]), (3000000, [2])]
noncomputable def p_law15_DringSmall_c : Code := (Go.Proofs.Try.f11).body.getD .skip
noncomputable def p_law15_DringSmall_l8_S : Shape where
  h := { tmps := [.sc (.vec 0 none 1), .any, .any, .sc (.ptr 1 0 false), .sc (.int .i64), .sc (.int .i64), .any, .any, .any, .any, .any, .any, .any, .any, .any, .any, .any, .any, .any, .any, .any, .any, .any, .any, .any, .any, .any, .any, .any, .any, .any, .any, .any, .any, .sc (.int .i64), .any, .any, .any, .any, .any, .any, .any, .any, .any, .any, .any, .any, .any, .any, .any, .any, .any, .any, .any, .any, .any, .any, .any, .any, .any, .any, .any, .any, .any, .any, .any, .any, .any, .any, .any, .any, .any, .any, .any, .any, .any, .any, .any, .any, .any, .any, .any, .any, .any, .any, .any, .any, .any, .any, .any, .any, .any, .any, .any, .any, .any, .any, .any, .any, .any, .any], mem := [.live [.xs (.int .u8) none] (.ro), .live [.xs (.int .i32) (some 256)] (.own)] }
  ks := [.nat, .int, .int, .int, .nat, .xs, .xs]
  st := fun x => { tmps := [.one (.sc (.vec 0 x.1 1)), .one .any, .one .any, .one (.sc (.ptr 1 0 none)), .one (.sc (.int .i64 x.2.1)), .one (.sc (.int .i64 x.2.2.1)), .one .any, .one .any, .one .any, .one .any, .one .any, .one .any, .one .any, .one .any, .one .any, .one .any, .one .any, .one .any, .one .any, .one .any, .one .any, .one .any, .one .any, .one .any, .one .any, .one .any, .one .any, .one .any, .one .any, .one .any, .one .any, .one .any, .one .any, .one .any, .one (.sc (.int .i64 x.2.2.2.1)), .one .any, .one .any, .one .any, .one .any, .one .any, .one .any, .one .any, .one .any, .one .any, .one .any, .one .any, .one .any, .one .any, .one .any, .one .any, .one .any, .one .any, .one .any, .one .any, .one .any, .one .any, .one .any, .one .any, .one .any, .one .any, .one .any, .one .any, .one .any, .one .any, .one .any, .one .any, .one .any, .one .any, .one .any, .one .any, .one .any, .one .any, .one .any, .one .any, .one .any, .one .any, .one .any, .one .any, .one .any, .one .any, .one .any, .one .any, .one .any, .one .any, .one .any, .one .any, .one .any, .one .any, .one .any, .one .any, .one .any, .one .any, .one .any, .one .any, .one .any, .one .any, .one .any, .one .any, .one .any, .one .any, .one .any], mem := [.live { segs := [.xs (.int .u8) x.2.2.2.2.1 x.2.2.2.2.2.1], own := .ro }, .live { segs := [.xs (.int .i32) 256 x.2.2.2.2.2.2.1], own := .own }] }
noncomputable def p_law15_DringSmall_l8_F (N : Nat) (β : Type) (x : (Nat × Int × Int × Int × Nat × List Int × List Int × Unit)) (kn : (Nat × Int × Int × Int × Nat × List Int × List Int × Unit) → Option β) (ke : ((Nat × Int × Int × Nat × List Int × List Int × Unit)) → Option β) : Option β :=
  if (x.2.2.2.1 < (256:Int)) then
    if 0 ≤ x.2.2.2.1 then (
    if x.2.2.2.1 < 256 then (
    if (x.2.2.2.1.toNat) < 256 then (
    if ((List.getD x.2.2.2.2.2.2.1 (x.2.2.2.1.toNat) 0) ≠ (0:Int)) then
      kn (x.1, x.2.1, (IntKind.i64.wrap (x.2.2.1 + (1:Int))), (IntKind.i64.wrap (x.2.2.2.1 + (1:Int))), x.2.2.2.2.1, x.2.2.2.2.2.1, x.2.2.2.2.2.2.1, ())
    else
      kn (x.1, x.2.1, x.2.2.1, (IntKind.i64.wrap (x.2.2.2.1 + (1:Int))), x.2.2.2.2.1, x.2.2.2.2.2.1, x.2.2.2.2.2.2.1, ())) else none) else none) else none
  else
    ke (x.1, x.2.1, x.2.2.1, x.2.2.2.2.1, x.2.2.2.2.2.1, x.2.2.2.2.2.2.1, ())
noncomputable def p_law15_DringSmall_l8_go : Go' ((Nat × Int × Int × Nat × List Int × List Int × Unit)) := fun y K => K (.exit 0) { tmps := [.one (.sc (.vec 0 y.1 1)), .one .any, .one .any, .one (.sc (.ptr 1 0 none)), .one (.sc (.int .i64 y.2.1)), .one (.sc (.int .i64 y.2.2.1)), .one .any, .one .any, .one .any, .one .any, .one .any, .one .any, .one .any, .one .any, .one .any, .one .any, .one .any, .one .any, .one .any, .one .any, .one .any, .one .any, .one .any, .one .any, .one .any, .one .any, .one .any, .one .any, .one .any, .one .any, .one .any, .one .any, .one .any, .one .any, .one .any, .one .any, .one .any, .one .any, .one .any, .one .any, .one .any, .one .any, .one .any, .one .any, .one .any, .one .any, .one .any, .one .any, .one .any, .one .any, .one .any, .one .any, .one .any, .one .any, .one .any, .one .any, .one .any, .one .any, .one .any, .one .any, .one .any, .one .any, .one .any, .one .any, .one .any, .one .any, .one .any, .one .any, .one .any, .one .any, .one .any, .one .any, .one .any, .one .any, .one .any, .one .any, .one .any, .one .any, .one .any, .one .any, .one .any, .one .any, .one .any, .one .any, .one .any, .one .any, .one .any, .one .any, .one .any, .one .any, .one .any, .one .any, .one .any, .one .any, .one .any, .one .any, .one .any, .one .any, .one .any, .one .any, .one .any], mem := [.live { segs := [.xs (.int .u8) y.2.2.2.1 y.2.2.2.2.1], own := .ro }, .live { segs := [.xs (.int .i32) 256 y.2.2.2.2.2.1], own := .own }] }
noncomputable def p_law15_DringSmall_l8_L (N : Nat) : LT := upd (LT.nil) 8 (loopE p_law15_DringSmall_l8_S N (p_law15_DringSmall_l8_F N) p_law15_DringSmall_l8_go)
theorem p_law15_DringSmall_l8_ok (N : Nat) : OkAll p_law15_DringSmall_E p_law15_DringSmall_H N (p_law15_DringSmall_l8_L N) (subs p_law15_DringSmall_c) :=
  addLoop (c := theLoop 8 p_law15_DringSmall_c) (OkAll.nil) (by kernel_rfl) (fun x => by kernel_rfl) (fun β x kn ke => by kernel_rfl)
noncomputable def p_law15_DringSmall_l16_S : Shape where
  h := { tmps := [.sc (.vec 0 none 1), .any, .any, .any, .any, .any, .any, .any, .any, .any, .any, .any, .any, .any, .any, .any, .any, .any, .any, .any, .any, .any, .any, .any, .any, .any, .any, .any, .any, .any, .any, .any, .any, .any, .any, .any, .any, .any, .any, .any, .any, .any, .any, .any, .any, .any, .any, .any, .any, .any, .any, .any, .any, .any, .any, .sc (.vec 1 (some 2) 1), .sc (.int .i64), .sc (.int .i64), .any, .any, .any, .any, .any, .any, .any, .any, .any, .any, .any, .any, .any, .any, .any, .any, .any, .any, .any, .any, .any, .any, .any, .any, .any, .any, .any, .any, .any, .any, .any, .any, .any, .any, .any, .any, .any, .any, .any, .any, .any, .any, .any], mem := [.live [.xs (.int .u8) none] (.ro), .live [.xs (.int .i64) (some 2)] (.own)] }
  ks := [.nat, .int, .int, .nat, .xs, .xs]
  st := fun x => { tmps := [.one (.sc (.vec 0 x.1 1)), .one .any, .one .any, .one .any, .one .any, .one .any, .one .any, .one .any, .one .any, .one .any, .one .any, .one .any, .one .any, .one .any, .one .any, .one .any, .one .any, .one .any, .one .any, .one .any, .one .any, .one .any, .one .any, .one .any, .one .any, .one .any, .one .any, .one .any, .one .any, .one .any, .one .any, .one .any, .one .any, .one .any, .one .any, .one .any, .one .any, .one .any, .one .any, .one .any, .one .any, .one .any, .one .any, .one .any, .one .any, .one .any, .one .any, .one .any, .one .any, .one .any, .one .any, .one .any, .one .any, .one .any, .one .any, .one (.sc (.vec 1 2 1)), .one (.sc (.int .i64 x.2.1)), .one (.sc (.int .i64 x.2.2.1)), .one .any, .one .any, .one .any, .one .any, .one .any, .one .any, .one .any, .one .any, .one .any, .one .any, .one .any, .one .any, .one .any, .one .any, .one .any, .one .any, .one .any, .one .any, .one .any, .one .any, .one .any, .one .any, .one .any, .one .any, .one .any, .one .any, .one .any, .one .any, .one .any, .one .any, .one .any, .one .any, .one .any, .one .any, .one .any, .one .any, .one .any, .one .any, .one .any, .one .any, .one .any, .one .any, .one .any], mem := [.live { segs := [.xs (.int .u8) x.2.2.2.1 x.2.2.2.2.1], own := .ro }, .live { segs := [.xs (.int .i64) 2 x.2.2.2.2.2.1], own := .own }] }
noncomputable def p_law15_DringSmall_l16_F (N : Nat) (β : Type) (x : (Nat × Int × Int × Nat × List Int × List Int × Unit)) (kn : (Nat × Int × Int × Nat × List Int × List Int × Unit) → Option β) (ke : ((Bool × Unit) ⊕ (Nat × Nat × List Int × Unit)) → Option β) : Option β :=
  if (x.2.2.1 < x.2.1) then
    if 0 ≤ x.2.2.1 then (
    if x.2.2.1 < (2:Int) then (
    if (x.2.2.1.toNat) < 2 then (
    (g_dring_RejBounded ((List.getD x.2.2.2.2.2.1 (x.2.2.1.toNat) 0), x.2.2.2.2.1, ())).bind fun r6 => (
    if (r6.2 = (0:Int)) then
      (g_dring_Norm (r6.1, ())).bind fun r7 => (
      if (r7 > (IntKind.i32.wrap (List.getD x.2.2.2.2.2.1 (x.2.2.1.toNat) 0))) then
        ke (.inl (false, ()))
      else
        kn (x.1, x.2.1, (IntKind.i64.wrap (x.2.2.1 + (1:Int))), x.2.2.2.1, x.2.2.2.2.1, x.2.2.2.2.2.1, ()))
    else
      kn (x.1, x.2.1, (IntKind.i64.wrap (x.2.2.1 + (1:Int))), x.2.2.2.1, x.2.2.2.2.1, x.2.2.2.2.2.1, ()))) else none) else none) else none
  else
    ke (.inr (x.1, x.2.2.2.1, x.2.2.2.2.1, ()))
noncomputable def p_law15_DringSmall_l16_go : Go' ((Bool × Unit) ⊕ (Nat × Nat × List Int × Unit)) := fun y K => match y with
  | .inl y => K .ret { tmps := [.one .any, .one .any, .one (.sc (.known y.1)), .one .any, .one .any, .one .any, .one .any, .one .any, .one .any, .one .any, .one .any, .one .any, .one .any, .one .any, .one .any, .one .any, .one .any, .one .any, .one .any, .one .any, .one .any, .one .any, .one .any, .one .any, .one .any, .one .any, .one .any, .one .any, .one .any, .one .any, .one .any, .one .any, .one .any, .one .any, .one .any, .one .any, .one .any, .one .any, .one .any, .one .any, .one .any, .one .any, .one .any, .one .any, .one .any, .one .any, .one .any, .one .any, .one .any, .one .any, .one .any, .one .any, .one .any, .one .any, .one .any, .one .any, .one .any, .one .any, .one .any, .one .any, .one .any, .one .any, .one .any, .one .any, .one .any, .one .any, .one .any, .one .any, .one .any, .one .any, .one .any, .one .any, .one .any, .one .any, .one .any, .one .any, .one .any, .one .any, .one .any, .one .any, .one .any, .one .any, .one .any, .one .any, .one .any, .one .any, .one .any, .one .any, .one .any, .one .any, .one .any, .one .any, .one .any, .one .any, .one .any, .one .any, .one .any, .one .any, .one .any, .one .any, .one .any], mem := [] }
  | .inr y => K (.exit 2) { tmps := [.one (.sc (.vec 0 y.1 1)), .one .any, .one .any, .one .any, .one .any, .one .any, .one .any, .one .any, .one .any, .one .any, .one .any, .one .any, .one .any, .one .any, .one .any, .one .any, .one .any, .one .any, .one .any, .one .any, .one .any, .one .any, .one .any, .one .any, .one .any, .one .any, .one .any, .one .any, .one .any, .one .any, .one .any, .one .any, .one .any, .one .any, .one .any, .one .any, .one .any, .one .any, .one .any, .one .any, .one .any, .one .any, .one .any, .one .any, .one .any, .one .any, .one .any, .one .any, .one .any, .one .any, .one .any, .one .any, .one .any, .one .any, .one .any, .one .any, .one .any, .one .any, .one .any, .one .any, .one .any, .one .any, .one .any, .one .any, .one .any, .one .any, .one .any, .one .any, .one .any, .one .any, .one .any, .one .any, .one .any, .one .any, .one .any, .one .any, .one .any, .one .any, .one .any, .one .any, .one .any, .one .any, .one .any, .one .any, .one .any, .one .any, .one .any, .one .any, .one .any, .one .any, .one .any, .one .any, .one .any, .one .any, .one .any, .one .any, .one .any, .one .any, .one .any, .one .any, .one .any], mem := [.live { segs := [.xs (.int .u8) y.2.1 y.2.2.1], own := .ro }] }
noncomputable def p_law15_DringSmall_l16_L (N : Nat) : LT := upd (p_law15_DringSmall_l8_L N) 16 (loopE p_law15_DringSmall_l16_S N (p_law15_DringSmall_l16_F N) p_law15_DringSmall_l16_go)
theorem p_law15_DringSmall_l16_ok (N : Nat) : OkAll p_law15_DringSmall_E p_law15_DringSmall_H N (p_law15_DringSmall_l16_L N) (subs p_law15_DringSmall_c) :=
  addLoop (c := theLoop 16 p_law15_DringSmall_c) (p_law15_DringSmall_l8_ok N) (by kernel_rfl) (fun x => by kernel_rfl) (fun β x kn ke => by kernel_rfl)
noncomputable def p_law15_DringSmall_l23_S : Shape where
  h := { tmps := [.sc (.vec 0 none 1), .any, .any, .any, .any, .any, .any, .any, .any, .any, .any, .any, .any, .any, .any, .any, .any, .any, .any, .any, .any, .any, .any, .any, .any, .any, .any, .any, .any, .any, .any, .any, .any, .any, .any, .any, .any, .any, .any, .any, .any, .any, .any, .any, .any, .any, .any, .any, .any, .any, .any, .any, .any, .any, .any, .any, .any, .any, .any, .any, .any, .any, .any, .any, .any, .any, .any, .any, .any, .any, .any, .any, .any, .any, .any, .any, .any, .sc (.vec 1 (some 2) 1), .sc (.int .i64), .sc (.int .i64), .any, .any, .any, .any, .any, .any, .any, .any, .any, .any, .any, .any, .any, .any, .any, .any, .any, .any, .any, .any, .any], mem := [.live [.xs (.int .u8) none] (.ro), .live [.xs (.int .i64) (some 2)] (.own)] }
  ks := [.nat, .int, .int, .nat, .xs, .xs]
  st := fun x => { tmps := [.one (.sc (.vec 0 x.1 1)), .one .any, .one .any, .one .any, .one .any, .one .any, .one .any, .one .any, .one .any, .one .any, .one .any, .one .any, .one .any, .one .any, .one .any, .one .any, .one .any, .one .any, .one .any, .one .any, .one .any, .one .any, .one .any, .one .any, .one .any, .one .any, .one .any, .one .any, .one .any, .one .any, .one .any, .one .any, .one .any, .one .any, .one .any, .one .any, .one .any, .one .any, .one .any, .one .any, .one .any, .one .any, .one .any, .one .any, .one .any, .one .any, .one .any, .one .any, .one .any, .one .any, .one .any, .one .any, .one .any, .one .any, .one .any, .one .any, .one .any, .one .any, .one .any, .one .any, .one .any, .one .any, .one .any, .one .any, .one .any, .one .any, .one .any, .one .any, .one .any, .one .any, .one .any, .one .any, .one .any, .one .any, .one .any, .one .any, .one .any, .one (.sc (.vec 1 2 1)), .one (.sc (.int .i64 x.2.1)), .one (.sc (.int .i64 x.2.2.1)), .one .any, .one .any, .one .any, .one .any, .one .any, .one .any, .one .any, .one .any, .one .any, .one .any, .one .any, .one .any, .one .any, .one .any, .one .any, .one .any, .one .any, .one .any, .one .any, .one .any, .one .any], mem := [.live { segs := [.xs (.int .u8) x.2.2.2.1 x.2.2.2.2.1], own := .ro }, .live { segs := [.xs (.int .i64) 2 x.2.2.2.2.2.1], own := .own }] }
noncomputable def p_law15_DringSmall_l23_F (N : Nat) (β : Type) (x : (Nat × Int × Int × Nat × List Int × List Int × Unit)) (kn : (Nat × Int × Int × Nat × List Int × List Int × Unit) → Option β) (ke : ((Bool × Unit) ⊕ (Unit)) → Option β) : Option β :=
  if (x.2.2.1 < x.2.1) then
    if 0 ≤ x.2.2.1 then (
    if x.2.2.1 < (2:Int) then (
    if (x.2.2.1.toNat) < 2 then (
    (g_dring_Mask ((List.getD x.2.2.2.2.2.1 (x.2.2.1.toNat) 0), x.2.2.2.2.1, ())).bind fun r10 => (
    if (r10.2 = (0:Int)) then
      (g_dring_Norm (r10.1, ())).bind fun r11 => (
      if (IntKind.u64.wrap (IntKind.i64.wrap ((List.getD x.2.2.2.2.2.1 (x.2.2.1.toNat) 0) - (1:Int)))) < 0 then none else (
      if (r11 > (ishl IntKind.i32 (1:Int) (IntKind.u64.wrap (IntKind.i64.wrap ((List.getD x.2.2.2.2.2.1 (x.2.2.1.toNat) 0) - (1:Int)))))) then
        ke (.inl (false, ()))
      else
        kn (x.1, x.2.1, (IntKind.i64.wrap (x.2.2.1 + (1:Int))), x.2.2.2.1, x.2.2.2.2.1, x.2.2.2.2.2.1, ())))
    else
      kn (x.1, x.2.1, (IntKind.i64.wrap (x.2.2.1 + (1:Int))), x.2.2.2.1, x.2.2.2.2.1, x.2.2.2.2.2.1, ()))) else none) else none) else none
  else
    ke (.inr (()))
noncomputable def p_law15_DringSmall_l23_go : Go' ((Bool × Unit) ⊕ (Unit)) := fun y K => match y with
  | .inl y => K .ret { tmps := [.one .any, .one .any, .one (.sc (.known y.1)), .one .any, .one .any, .one .any, .one .any, .one .any, .one .any, .one .any, .one .any, .one .any, .one .any, .one .any, .one .any, .one .any, .one .any, .one .any, .one .any, .one .any, .one .any, .one .any, .one .any, .one .any, .one .any, .one .any, .one .any, .one .any, .one .any, .one .any, .one .any, .one .any, .one .any, .one .any, .one .any, .one .any, .one .any, .one .any, .one .any, .one .any, .one .any, .one .any, .one .any, .one .any, .one .any, .one .any, .one .any, .one .any, .one .any, .one .any, .one .any, .one .any, .one .any, .one .any, .one .any, .one .any, .one .any, .one .any, .one .any, .one .any, .one .any, .one .any, .one .any, .one .any, .one .any, .one .any, .one .any, .one .any, .one .any, .one .any, .one .any, .one .any, .one .any, .one .any, .one .any, .one .any, .one .any, .one .any, .one .any, .one .any, .one .any, .one .any, .one .any, .one .any, .one .any, .one .any, .one .any, .one .any, .one .any, .one .any, .one .any, .one .any, .one .any, .one .any, .one .any, .one .any, .one .any, .one .any, .one .any, .one .any, .one .any], mem := [] }
  | .inr y => K (.exit 4) { tmps := [.one .any, .one .any, .one .any, .one .any, .one .any, .one .any, .one .any, .one .any, .one .any, .one .any, .one .any, .one .any, .one .any, .one .any, .one .any, .one .any, .one .any, .one .any, .one .any, .one .any, .one .any, .one .any, .one .any, .one .any, .one .any, .one .any, .one .any, .one .any, .one .any, .one .any, .one .any, .one .any, .one .any, .one .any, .one .any, .one .any, .one .any, .one .any, .one .any, .one .any, .one .any, .one .any, .one .any, .one .any, .one .any, .one .any, .one .any, .one .any, .one .any, .one .any, .one .any, .one .any, .one .any, .one .any, .one .any, .one .any, .one .any, .one .any, .one .any, .one .any, .one .any, .one .any, .one .any, .one .any, .one .any, .one .any, .one .any, .one .any, .one .any, .one .any, .one .any, .one .any, .one .any, .one .any, .one .any, .one .any, .one .any, .one .any, .one .any, .one .any, .one .any, .one .any, .one .any, .one .any, .one .any, .one .any, .one .any, .one .any, .one .any, .one .any, .one .any, .one .any, .one .any, .one .any, .one .any, .one .any, .one .any, .one .any, .one .any, .one .any, .one .any], mem := [] }
noncomputable def p_law15_DringSmall_l23_L (N : Nat) : LT := upd (p_law15_DringSmall_l16_L N) 23 (loopE p_law15_DringSmall_l23_S N (p_law15_DringSmall_l23_F N) p_law15_DringSmall_l23_go)
theorem p_law15_DringSmall_l23_ok (N : Nat) : OkAll p_law15_DringSmall_E p_law15_DringSmall_H N (p_law15_DringSmall_l23_L N) (subs p_law15_DringSmall_c) :=
  addLoop (c := theLoop 23 p_law15_DringSmall_c) (p_law15_DringSmall_l16_ok N) (by kernel_rfl) (fun x => by kernel_rfl) (fun β x kn ke => by kernel_rfl)
abbrev p_law15_DringSmall_ks : List Kd := [.sl (.int .u8)]
abbrev p_law15_DringSmall_rs : List Kd := [.bool]
noncomputable def p_law15_DringSmall (N : Nat) (x : List Int × Unit) : Option (Bool) :=
  if ((((List.length x.1) : Nat) : Int) > (1000:Int)) then
    (g_law15_live (())).bind fun r1 => (
    some (decide (r1 = true)))
  else
    (g_dring_Ball ((49:Int), x.1, ())).bind fun r2 => (
    (g_law15_live (())).bind fun r3 => (
    if (¬ (r3 = true)) then
      some false
    else
      if (r2.2 ≠ (0:Int)) then
        if (r2.2 ≠ (130:Int)) then
          some false
        else
          iter (p_law15_DringSmall_l8_F N) N ((List.length x.1), r2.2, (0:Int), (0:Int), (List.length x.1), x.1, r2.1, ()) fun y4 => (
          if (y4.2.1 = (0:Int)) then
            if (y4.2.2.1 ≠ (49:Int)) then
              some false
            else
              (g_dring_Norm (y4.2.2.2.2.2.1, ())).bind fun r5 => (
              if (r5 ≠ (1:Int)) then
                some false
              else
                iter (p_law15_DringSmall_l16_F N) N (y4.1, (2:Int), (0:Int), y4.2.2.2.1, y4.2.2.2.2.1, (List.set (List.set (List.replicate 2 0) 0 (2:Int)) 1 (4:Int)), ()) fun y => (match y with
                | .inl y8 => (
                  some y8.1)
                | .inr y9 => (
                  iter (p_law15_DringSmall_l23_F N) N (y9.1, (2:Int), (0:Int), y9.2.1, y9.2.2.1, (List.set (List.set (List.replicate 2 0) 0 (18:Int)) 1 (20:Int)), ()) fun y => (match y with
                  | .inl y12 => (
                    some y12.1)
                  | .inr y13 => (
                    some true)))))
          else
            iter (p_law15_DringSmall_l16_F N) N (y4.1, (2:Int), (0:Int), y4.2.2.2.1, y4.2.2.2.2.1, (List.set (List.set (List.replicate 2 0) 0 (2:Int)) 1 (4:Int)), ()) fun y => (match y with
            | .inl y14 => (
              some y14.1)
            | .inr y15 => (
              iter (p_law15_DringSmall_l23_F N) N (y15.1, (2:Int), (0:Int), y15.2.1, y15.2.2.1, (List.set (List.set (List.replicate 2 0) 0 (18:Int)) 1 (20:Int)), ()) fun y => (match y with
              | .inl y16 => (
                some y16.1)
              | .inr y17 => (
                some true)))))
      else
        iter (p_law15_DringSmall_l8_F N) N ((List.length x.1), r2.2, (0:Int), (0:Int), (List.length x.1), x.1, r2.1, ()) fun y18 => (
        if (y18.2.1 = (0:Int)) then
          if (y18.2.2.1 ≠ (49:Int)) then
            some false
          else
            (g_dring_Norm (y18.2.2.2.2.2.1, ())).bind fun r19 => (
            if (r19 ≠ (1:Int)) then
              some false
            else
              iter (p_law15_DringSmall_l16_F N) N (y18.1, (2:Int), (0:Int), y18.2.2.2.1, y18.2.2.2.2.1, (List.set (List.set (List.replicate 2 0) 0 (2:Int)) 1 (4:Int)), ()) fun y => (match y with
              | .inl y20 => (
                some y20.1)
              | .inr y21 => (
                iter (p_law15_DringSmall_l23_F N) N (y21.1, (2:Int), (0:Int), y21.2.1, y21.2.2.1, (List.set (List.set (List.replicate 2 0) 0 (18:Int)) 1 (20:Int)), ()) fun y => (match y with
                | .inl y22 => (
                  some y22.1)
                | .inr y23 => (
                  some true)))))
        else
          iter (p_law15_DringSmall_l16_F N) N (y18.1, (2:Int), (0:Int), y18.2.2.2.1, y18.2.2.2.2.1, (List.set (List.set (List.replicate 2 0) 0 (2:Int)) 1 (4:Int)), ()) fun y => (match y with
          | .inl y24 => (
            some y24.1)
          | .inr y25 => (
            iter (p_law15_DringSmall_l23_F N) N (y25.1, (2:Int), (0:Int), y25.2.1, y25.2.2.1, (List.set (List.set (List.replicate 2 0) 0 (18:Int)) 1 (20:Int)), ()) fun y => (match y with
            | .inl y26 => (
              some y26.1)
            | .inr y27 => (
              some true)))))))
theorem p_law15_DringSmall_eq (N : Nat) (x : Ds [.sl (.int .u8)]) : funL p_law15_DringSmall_E p_law15_DringSmall_H (p_law15_DringSmall_l23_L N) N Go.Proofs.Try.f11 p_law15_DringSmall_c [.sl (.int .u8)] [.bool] x = p_law15_DringSmall N x := by kernel_rfl
theorem p_law15_DringSmall_Eok (he_law15_live : SigOk Go.Proofs.Try.prog 17 ⟨[], [.bool], g_law15_live⟩) (he_dring_Ball : SigOk Go.Proofs.Try.prog 47 ⟨[.int .i64, .sl (.int .u8)], [.xs (.int .i32) 256, .int .i64], g_dring_Ball⟩) (he_dring_Norm : SigOk Go.Proofs.Try.prog 19 ⟨[.xs (.int .i32) 256], [.int .i32], g_dring_Norm⟩) (he_dring_RejBounded : SigOk Go.Proofs.Try.prog 48 ⟨[.int .i64, .sl (.int .u8)], [.xs (.int .i32) 256, .int .i64], g_dring_RejBounded⟩) (he_dring_Mask : SigOk Go.Proofs.Try.prog 49 ⟨[.int .i64, .sl (.int .u8)], [.xs (.int .i32) 256, .int .i64], g_dring_Mask⟩) : p_law15_DringSmall_E.Ok Go.Proofs.Try.prog := AE.of_ok (all_cons ty3_ok (all_cons ty21_ok (all_cons ty23_ok (all_cons ty39_ok (all_cons ty50_ok (all_cons ty51_ok all_nil)))))) (all_cons ⟨he_law15_live, enters_law15_live⟩ (all_cons ⟨he_dring_Ball, enters_dring_Ball⟩ (all_cons ⟨he_dring_Norm, enters_dring_Norm⟩ (all_cons ⟨he_dring_RejBounded, enters_dring_RejBounded⟩ (all_cons ⟨he_dring_Mask, enters_dring_Mask⟩ all_nil)))))
theorem p_law15_DringSmall_ok (he_law15_live : SigOk Go.Proofs.Try.prog 17 ⟨[], [.bool], g_law15_live⟩) (he_dring_Ball : SigOk Go.Proofs.Try.prog 47 ⟨[.int .i64, .sl (.int .u8)], [.xs (.int .i32) 256, .int .i64], g_dring_Ball⟩) (he_dring_Norm : SigOk Go.Proofs.Try.prog 19 ⟨[.xs (.int .i32) 256], [.int .i32], g_dring_Norm⟩) (he_dring_RejBounded : SigOk Go.Proofs.Try.prog 48 ⟨[.int .i64, .sl (.int .u8)], [.xs (.int .i32) 256, .int .i64], g_dring_RejBounded⟩) (he_dring_Mask : SigOk Go.Proofs.Try.prog 49 ⟨[.int .i64, .sl (.int .u8)], [.xs (.int .i32) 256, .int .i64], g_dring_Mask⟩) {g : Ds [.sl (.int .u8)] → Option (Rs [.bool])} (hg : ∀ x r, g x = some r → ∃ N, p_law15_DringSmall N x = some r) : SigOk Go.Proofs.Try.prog 11 ⟨[.sl (.int .u8)], [.bool], g⟩ :=
  fun_of (E := p_law15_DringSmall_E) (H := p_law15_DringSmall_H) (L := fun N => p_law15_DringSmall_l23_L N) (c := p_law15_DringSmall_c) (ks := p_law15_DringSmall_ks) (rs := p_law15_DringSmall_rs) (F := p_law15_DringSmall) (p_law15_DringSmall_Eok he_law15_live he_dring_Ball he_dring_Norm he_dring_RejBounded he_dring_Mask) mix Go.Proofs.Try.func11 (by kernel_rfl) (fun N => p_law15_DringSmall_l23_ok N) p_law15_DringSmall_eq hg
end Go.Ax.TryP
/-! ### The challenge: both programs -/
set_option linter.unusedVariables false
set_option maxRecDepth 4000
namespace Go.Ax.TryP
abbrev sp32 (s : List Int) : List Int := spongeS 136 31 s 1032
theorem sp32_get {s : List Int} {p : Nat} (h : p < 1032) : (sp32 s).getD p 0 = shb s p := spS_get h
theorem skip_b {s : List Int} {i : Nat} : ∀ j at', at' ≤ 1032 → 1032 - at' ≤ j → at' ≤ skipB s i j at' ∧ skipB s i j at' ≤ 1032 ∧ (skipB s i j at' < 1032 → shb s (skipB s i j at') ≤ i)
  | 0, at', h1, h2 => by
    have e : at' = 1032 := by omega
    subst e
    exact ⟨Nat.le_refl _, Nat.le_refl _, fun h => absurd h (by simp [skipB])⟩
  | j + 1, at', h1, h2 => by
    unfold skipB
    by_cases h : at' < 1032 ∧ (i : Int) < shb s at'
    · rw [if_pos h]
      obtain ⟨a, b, c⟩ := skip_b (s := s) (i := i) j (at' + 1) (by omega) (by omega)
      exact ⟨by omega, b, c⟩
    · rw [if_neg h]
      exact ⟨Nat.le_refl _, h1, fun h3 => by omega⟩
abbrev Id1 := Int × Nat × Nat × Nat × Int × Int × List Int × List Int × Nat × List Int × Unit
def bdX (tau : Int) (s : List Int) (p i : Nat) (c : List Int) : Id1 := (tau, 1024, 1024, 1032, ((p - 8 : Nat) : Int), (i : Int), z256, c, 1032, sp32 s, ())
theorem bd_skip {tau : Int} {s : List Int} {i : Nat} {c : List Int} {N : Nat} {β : Type} (K : Id1 → Option β) : ∀ j p, 8 ≤ p → p ≤ 1032 → 1032 - p ≤ j → ∀ n, j < n →
    iter (p_dring_Ball_l12_F N) n (bdX tau s p i c) K = K (bdX tau s (skipB s i j p) i c)
  | j, p, h0, h1, h2, n, hn => by
    obtain ⟨n, rfl⟩ : ∃ m, n = m + 1 := ⟨n - 1, by omega⟩
    simp only [iter]
    by_cases hp : p < 1032
    · obtain ⟨j, rfl⟩ : ∃ i, j = i + 1 := ⟨j - 1, by omega⟩
      have hs := shb_b s p
      have e : (sp32 s).getD (8 + (p - 8)) 0 = shb s p := by rw [show 8 + (p - 8) = p by omega]; exact sp32_get hp
      have ew : IntKind.i64.wrap (((p - 8 : Nat) : Int) + 1) = ((p + 1 - 8 : Nat) : Int) := by rw [wrap_i64 (by omega) (by omega)]; omega
      unfold p_dring_Ball_l12_F
      rw [show skipB s i (j + 1) p = if p < 1032 ∧ (i : Int) < shb s p then skipB s i j (p + 1) else p from rfl]
      unfold bdX
      dsimp only
      rw [if_pos (by omega), if_pos (by omega), if_pos (by omega), Int.toNat_natCast, if_pos (by omega), e, wrap_i64 (x := shb s p) (by omega) (by omega)]
      by_cases h : (i : Int) < shb s p
      · rw [if_pos h, if_pos ⟨hp, h⟩, ew]
        exact bd_skip (N := N) K j (p + 1) (by omega) (by omega) (by omega) n (by omega)
      · rw [if_neg (by omega), if_neg (by omega)]
    · have e : skipB s i j p = p := by
        cases j with
        | zero => rfl
        | succ j => unfold skipB; rw [if_neg (by omega)]
      rw [e]
      unfold p_dring_Ball_l12_F bdX
      dsimp only
      rw [if_neg (by omega)]
theorem bit_set (c : List Int) (i j : Nat) (v : Int) (b : Prop) [Decidable b] : (if b then ((c.set i v).set j 1).set j 8380416 else (c.set i v).set j 1) = (c.set i v).set j (if b then 8380416 else 1) := by
  split
  · rw [List.set_set]
  · rfl
theorem ball_none {tau : Nat} {s : List Int} {k : Nat} (h : ballN tau s k = none) : ∀ d, ballN tau s (k + d) = none
  | 0 => h
  | d + 1 => by rw [← Nat.add_assoc, ballN, ball_none h d]
abbrev Ok1 := (List Int × Unit) ⊕ (Int × List Int × Unit)
theorem bd_step {tau : Nat} (ht : tau ≤ 64) {s : List Int} {k p : Nat} (hk : k < tau) {c : List Int} (hp : 8 ≤ p ∧ p ≤ 1032) {N : Nat} (hN : 1032 < N) {β : Type} (kn : Id1 → Option β) (ke : Ok1 → Option β) :
    p_dring_Ball_l10_F N β (bdX tau s p (256 - tau + k) c) kn ke
    = if skipB s (256 - tau + k) 1032 p = 1032 then ke (.inl (z256, ())) else
      if k + 1 = tau then ke (.inr (0, ballC s k (256 - tau + k) (skipB s (256 - tau + k) 1032 p) c, ())) else kn (bdX tau s (skipB s (256 - tau + k) 1032 p + 1) (256 - tau + (k + 1)) (ballC s k (256 - tau + k) (skipB s (256 - tau + k) 1032 p) c)) := by
  obtain ⟨a1, a2, a3⟩ := skip_b (s := s) (i := 256 - tau + k) 1032 p hp.2 (by omega)
  unfold p_dring_Ball_l10_F
  have hi : (bdX tau s p (256 - tau + k) c).2.2.2.2.2.1 = ((256 - tau + k : Nat) : Int) := rfl
  rw [hi, if_pos (by omega)]
  refine (bd_skip (N := N) _ 1032 p hp.1 hp.2 (by omega) N hN).trans ?_
  generalize skipB s (256 - tau + k) 1032 p = r at a1 a2 a3
  unfold bdX
  dsimp only
  by_cases hr : r = 1032
  · subst hr
    rw [if_pos (by omega), if_pos rfl]
  · have hs := shb_b s r
    have hs2 := a3 (by omega)
    have hk8 := shb_b s (k / 8)
    have e : (sp32 s).getD (8 + (r - 8)) 0 = shb s r := by rw [show 8 + (r - 8) = r by omega]; exact sp32_get (by omega)
    have e8 : (sp32 s).getD (k / 8) 0 = shb s (k / 8) := sp32_get (by omega)
    have ek : IntKind.i64.wrap (IntKind.i64.wrap (((256 - tau + k : Nat) : Int) + tau) - 256) = (k : Int) := by rw [wrap_i64 (x := ((256 - tau + k : Nat) : Int) + tau) (by omega) (by omega), wrap_i64 (by omega) (by omega)]; omega
    have ed : IntKind.i64.wrap (Int.tdiv (k : Int) 8) = ((k / 8 : Nat) : Int) := by rw [tdiv_pos (by omega), wrap_i64 (by omega) (by omega)]; omega
    have em : Int.tmod (k : Int) 8 = ((k % 8 : Nat) : Int) := by rw [tmod_pos (by omega)]; omega
    have w1 : IntKind.i64.wrap (((r - 8 : Nat) : Int) + 1) = ((r + 1 - 8 : Nat) : Int) := by rw [wrap_i64 (by omega) (by omega)]; omega
    have w2 : IntKind.i64.wrap (((256 - tau + k : Nat) : Int) + 1) = ((256 - tau + (k + 1) : Nat) : Int) := by rw [wrap_i64 (by omega) (by omega)]; omega
    rw [if_neg (by omega), if_pos (by omega), if_pos (by omega), if_neg hr]
    simp only [Int.toNat_natCast, ek, ed, em, e, e8, w1, w2]
    rw [if_pos (by omega), if_pos (by omega), if_pos (by omega), if_pos (by omega), if_pos (by omega), if_pos (by omega), if_pos (by omega), if_pos (by omega), if_pos (by omega), if_pos (by omega), if_pos (by omega), if_pos (by omega), if_pos (by omega), if_neg (by omega)]
    rw [bit_u8 hk8.1 hk8.2 (by omega)]
    unfold ballC
    by_cases hb : bitI (shb s (k / 8)) (k % 8) = 1
    · rw [if_pos hb, if_pos hs.1, if_pos (by omega), if_pos (by omega), if_pos hb, List.set_set]
      by_cases h2 : k + 1 = tau
      · rw [if_pos (by omega), if_pos h2]
      · rw [if_neg (by omega), if_neg h2]
    · rw [if_neg hb, if_neg hb]
      by_cases h2 : k + 1 = tau
      · rw [if_pos (by omega), if_pos h2]
      · rw [if_neg (by omega), if_neg h2]
def ballR {β : Type} (o : Option (List Int × Nat)) (f : Option β) (g : List Int → Option β) : Option β := match o with
  | none => f
  | some (c, _) => g c
theorem bd_all {tau : Nat} (ht : tau ≤ 64) {s : List Int} {N : Nat} (hN : 1032 < N) {β : Type} (K : Ok1 → Option β) : ∀ j k p c, k + (j + 1) = tau → ballN tau s k = some (c, p) → 8 ≤ p ∧ p ≤ 1032 → ∀ n, j < n →
    iter (p_dring_Ball_l10_F N) n (bdX tau s p (256 - tau + k) c) K = ballR (ballN tau s tau) (K (.inl (z256, ()))) fun c => K (.inr (0, c, ()))
  | j, k, p, c, h, hb, hp, n, hn => by
    obtain ⟨n, rfl⟩ : ∃ m, n = m + 1 := ⟨n - 1, by omega⟩
    simp only [iter]
    obtain ⟨a1, a2, a3⟩ := skip_b (s := s) (i := 256 - tau + k) 1032 p hp.2 (by omega)
    have e1 : ballN tau s (k + 1) = if skipB s (256 - tau + k) 1032 p = 1032 then none else some (ballC s k (256 - tau + k) (skipB s (256 - tau + k) 1032 p) c, skipB s (256 - tau + k) 1032 p + 1) := by rw [ballN, hb]
    rw [bd_step ht (by omega) hp hN]
    by_cases hr : skipB s (256 - tau + k) 1032 p = 1032
    · rw [if_pos hr] at e1 ⊢
      have := ball_none e1 j
      rw [show k + 1 + j = tau by omega] at this
      rw [this]
      rfl
    · rw [if_neg hr] at e1 ⊢
      by_cases h2 : k + 1 = tau
      · rw [if_pos h2]
        rw [h2] at e1
        rw [e1]
        rfl
      · rw [if_neg h2]
        obtain ⟨j, rfl⟩ : ∃ i, j = i + 1 := ⟨j - 1, by omega⟩
        exact bd_all ht hN K j (k + 1) _ _ (by omega) e1 (by omega) n (by omega)
theorem q_dring_Ball : ∀ x r, g_dring_Ball x = some r → ∃ N, p_dring_Ball N x = some r := by
  refine Spec_of (ks := p_dring_Ball_ks) (rs := p_dring_Ball_rs) fun x hw hq => ⟨1133, ?_⟩
  obtain ⟨(tau : Int), (l : List Int), u⟩ := x
  obtain ⟨hd, hl⟩ := wf_ib.1 hw
  have hq : l.length ≤ 1000 := hq
  unfold p_dring_Ball ballS
  dsimp only
  by_cases h1 : tau < 1
  · rw [if_pos h1, if_pos (.inl h1)]
  by_cases h2 : 64 < tau
  · rw [if_neg h1, if_pos h2, if_pos (.inr h2)]
  rw [if_neg h1, if_neg h2, if_neg (by omega : ¬(tau < 1 ∨ 64 < tau))]
  refine (congrArg (fun o => Option.bind o _) (at_Shake256p (l := l) (n := 1032) (by omega) ⟨by omega, hl.2⟩)).trans ?_
  rw [Option.bind_some, if_neg (by simp)]
  dsimp only
  rw [spS_len, if_pos (by omega), if_pos (by omega), wrap_i64 (by omega) (by omega)]
  obtain ⟨n, rfl⟩ : ∃ n : Nat, tau = n := ⟨tau.toNat, by omega⟩
  have hx : ((n : Int), 1032 - 8, 1032 - 8, 1032, (0 : Int), (256 : Int) - n, z256, z256, 1032, sp32 l, ()) = bdX n l 8 (256 - n + 0) z256 := by
    unfold bdX
    rw [show ((256 - n + 0 : Nat) : Int) = 256 - (n : Int) by omega]
    rfl
  show iter (p_dring_Ball_l10_F 1133) (100 + 1033) ((n : Int), 1032 - 8, 1032 - 8, 1032, (0 : Int), (256 : Int) - n, z256, z256, 1032, sp32 l, ()) _ = _
  rw [hx, Int.toNat_natCast]
  refine (bd_all (tau := n) (by omega) (N := 1133) (by omega) _ (n - 1) 0 8 z256 (by omega) rfl ⟨by omega, by omega⟩ _ (by omega)).trans ?_
  cases ballN n l n with
  | none => rfl
  | some v => rfl
end Go.Ax.TryP
/-! ### The challenge: the reference; the samples agree -/
set_option linter.unusedVariables false
set_option maxRecDepth 4000
namespace Go.Ax.TryP
abbrev Ie1 := Int × Nat × Nat × Int × Int × List Int × Nat × List Int × Nat × List Int × List Int × Unit
abbrev b64 (s : List Int) : List Int := bitsOf ((sp32 s).take 8)
def beX (tau : Int) (s : List Int) (p i : Nat) (c : List Int) : Ie1 := (tau, 1032, 64, (p : Int), (i : Int), z256, 1032, sp32 s, 64, b64 s, c, ())
theorem b64_get {s : List Int} {k : Nat} (h : k < 64) : (b64 s).getD k 0 = bitI (shb s (k / 8)) (k % 8) := by
  have hl : ((sp32 s).take 8).length = 8 := by rw [List.length_take, spS_len]; rfl
  have e : ((sp32 s).take 8).getD (k / 8) 0 = shb s (k / 8) := by
    rw [List.getD_eq_getElem?_getD, List.getElem?_take_of_lt (by omega), ← List.getD_eq_getElem?_getD]
    exact sp32_get (by omega)
  have := bitsOf_getD (b := (sp32 s).take 8) (t := k) (by omega)
  rw [this]
  unfold bitAt
  rw [e]
theorem be_skip {tau : Int} {s : List Int} {i : Nat} {c : List Int} {N : Nat} {β : Type} (K : Ie1 → Option β) : ∀ j p, 8 ≤ p → p ≤ 1032 → 1032 - p ≤ j → ∀ n, j < n →
    iter (p_ref15_Ball_l10_F N) n (beX tau s p i c) K = K (beX tau s (skipB s i j p) i c)
  | j, p, h0, h1, h2, n, hn => by
    obtain ⟨n, rfl⟩ : ∃ m, n = m + 1 := ⟨n - 1, by omega⟩
    simp only [iter]
    by_cases hp : p < 1032
    · obtain ⟨j, rfl⟩ : ∃ i, j = i + 1 := ⟨j - 1, by omega⟩
      have hs := shb_b s p
      have e : (sp32 s).getD p 0 = shb s p := sp32_get hp
      have ew : IntKind.i64.wrap ((p : Int) + 1) = ((p + 1 : Nat) : Int) := by rw [wrap_i64 (by omega) (by omega)]; omega
      unfold p_ref15_Ball_l10_F
      rw [show skipB s i (j + 1) p = if p < 1032 ∧ (i : Int) < shb s p then skipB s i j (p + 1) else p from rfl]
      unfold beX
      dsimp only
      rw [if_pos (by omega), if_pos (by omega), if_pos (by omega), Int.toNat_natCast, if_pos (by omega), e, wrap_i64 (x := shb s p) (by omega) (by omega)]
      by_cases h : (i : Int) < shb s p
      · rw [if_pos h, if_pos ⟨hp, h⟩, ew]
        exact be_skip (N := N) K j (p + 1) (by omega) (by omega) (by omega) n (by omega)
      · rw [if_neg (by omega), if_neg (by omega)]
    · have e : skipB s i j p = p := by
        cases j with
        | zero => rfl
        | succ j => unfold skipB; rw [if_neg (by omega)]
      rw [e]
      unfold p_ref15_Ball_l10_F beX
      dsimp only
      rw [if_neg (by omega)]
abbrev Oe1 := (Int × List Int × Unit) ⊕ (List Int × List Int × Unit)
theorem be_step {tau : Nat} (ht : tau ≤ 64) {s : List Int} {k p : Nat} (hk : k < tau) {c : List Int} (hp : 8 ≤ p ∧ p ≤ 1032) {N : Nat} (hN : 1032 < N) {β : Type} (kn : Ie1 → Option β) (ke : Oe1 → Option β) :
    p_ref15_Ball_l8_F N β (beX tau s p (256 - tau + k) c) kn ke
    = if skipB s (256 - tau + k) 1032 p = 1032 then ke (.inl (130, z256, ())) else
      kn (beX tau s (skipB s (256 - tau + k) 1032 p + 1) (256 - tau + (k + 1)) (ballC s k (256 - tau + k) (skipB s (256 - tau + k) 1032 p) c)) := by
  obtain ⟨a1, a2, a3⟩ := skip_b (s := s) (i := 256 - tau + k) 1032 p hp.2 (by omega)
  unfold p_ref15_Ball_l8_F
  have hi : (beX tau s p (256 - tau + k) c).2.2.2.2.1 = ((256 - tau + k : Nat) : Int) := rfl
  rw [hi, if_pos (by omega)]
  refine (be_skip (N := N) _ 1032 p hp.1 hp.2 (by omega) N hN).trans ?_
  generalize skipB s (256 - tau + k) 1032 p = r at a1 a2 a3
  unfold beX
  dsimp only
  by_cases hr : r = 1032
  · subst hr
    rw [if_pos (by omega), if_pos rfl]
  · have hs := shb_b s r
    have hs2 := a3 (by omega)
    have e : (sp32 s).getD r 0 = shb s r := sp32_get (by omega)
    have ew : IntKind.i64.wrap (shb s r) = shb s r := wrap_i64 (by omega) (by omega)
    have eb := b64_get (s := s) (k := k) (by omega)
    have hbb := bitI_b (shb s (k / 8)) (k % 8)
    have ek : IntKind.i64.wrap (IntKind.i64.wrap (((256 - tau + k : Nat) : Int) + tau) - 256) = (k : Int) := by rw [wrap_i64 (x := ((256 - tau + k : Nat) : Int) + tau) (by omega) (by omega), wrap_i64 (by omega) (by omega)]; omega
    have w1 : IntKind.i64.wrap ((r : Int) + 1) = ((r + 1 : Nat) : Int) := by rw [wrap_i64 (by omega) (by omega)]; omega
    have w2 : IntKind.i64.wrap (((256 - tau + k : Nat) : Int) + 1) = ((256 - tau + (k + 1) : Nat) : Int) := by rw [wrap_i64 (by omega) (by omega)]; omega
    rw [if_neg (by omega), if_pos (by omega), if_pos (by omega), if_neg hr]
    simp only [Int.toNat_natCast, ek, e, ew, eb, w1, w2]
    rw [if_pos (by omega), if_pos (by omega), if_pos (by omega), if_pos (by omega), if_pos (by omega), if_pos (by omega), if_pos (by omega), if_pos (by omega), if_pos (by omega), if_pos (by omega), if_pos (by omega), if_pos (by omega), if_pos (by omega)]
    unfold ballC
    by_cases hb : bitI (shb s (k / 8)) (k % 8) = 1
    · rw [if_pos (by omega), if_pos hs.1, if_pos (by omega), if_pos (by omega), if_pos hb, List.set_set]
    · rw [if_neg (by omega), if_neg hb]
theorem be_all {tau : Nat} (ht : tau ≤ 64) {s : List Int} {N : Nat} (hN : 1032 < N) {β : Type} (K : Oe1 → Option β) : ∀ j k p c, k + j = tau → ballN tau s k = some (c, p) → 8 ≤ p ∧ p ≤ 1032 → ∀ n, j < n →
    iter (p_ref15_Ball_l8_F N) n (beX tau s p (256 - tau + k) c) K = ballR (ballN tau s tau) (K (.inl (130, z256, ()))) fun c => K (.inr (z256, c, ()))
  | 0, k, p, c, h, hb, hp, n, hn => by
    obtain ⟨n, rfl⟩ : ∃ m, n = m + 1 := ⟨n - 1, by omega⟩
    simp only [iter]
    have h : k = tau := by omega
    subst h
    rw [hb]
    unfold p_ref15_Ball_l8_F beX
    dsimp only
    rw [if_neg (by omega)]
    rfl
  | j + 1, k, p, c, h, hb, hp, n, hn => by
    obtain ⟨n, rfl⟩ : ∃ m, n = m + 1 := ⟨n - 1, by omega⟩
    simp only [iter]
    obtain ⟨a1, a2, a3⟩ := skip_b (s := s) (i := 256 - tau + k) 1032 p hp.2 (by omega)
    have e1 : ballN tau s (k + 1) = if skipB s (256 - tau + k) 1032 p = 1032 then none else some (ballC s k (256 - tau + k) (skipB s (256 - tau + k) 1032 p) c, skipB s (256 - tau + k) 1032 p + 1) := by rw [ballN, hb]
    rw [be_step ht (by omega) hp hN]
    by_cases hr : skipB s (256 - tau + k) 1032 p = 1032
    · rw [if_pos hr] at e1 ⊢
      have := ball_none e1 j
      rw [show k + 1 + j = tau by omega] at this
      rw [this]
      rfl
    · rw [if_neg hr] at e1 ⊢
      exact be_all ht hN K j (k + 1) _ _ (by omega) e1 (by omega) n (by omega)
theorem q_ref15_Ball : ∀ x r, g_ref15_Ball x = some r → ∃ N, p_ref15_Ball N x = some r := by
  refine Spec_of (ks := p_ref15_Ball_ks) (rs := p_ref15_Ball_rs) fun x hw hq => ⟨1133, ?_⟩
  obtain ⟨(tau : Int), (l : List Int), u⟩ := x
  obtain ⟨hd, hl⟩ := wf_ib.1 hw
  have hq : l.length ≤ 1000 := hq
  unfold p_ref15_Ball ballS
  dsimp only
  by_cases h1 : tau < 1
  · rw [if_pos h1, if_pos (.inl h1)]
  by_cases h2 : 64 < tau
  · rw [if_neg h1, if_pos h2, if_pos (.inr h2)]
  rw [if_neg h1, if_neg h2, if_neg (by omega : ¬(tau < 1 ∨ 64 < tau))]
  refine (congrArg (fun o => Option.bind o _) (at_Shake256r (l := l) (n := 1032) (by omega) ⟨by omega, hl.2⟩)).trans ?_
  rw [Option.bind_some]
  have hl8 : ((sp32 l).take 8).length = 8 := by rw [List.length_take, spS_len]; rfl
  have hb8 : ∀ z ∈ (sp32 l).take 8, 0 ≤ z ∧ z ≤ 255 := fun z hz => spS_b _ _ _ _ z (List.mem_of_mem_take hz)
  have hL : (b64 l).length = 64 := by rw [bitsOf_len, hl8]
  rw [spS_len, if_pos (by omega), List.drop_zero]
  refine (congrArg (fun o => Option.bind o _) (at_Bits (by omega) hb8)).trans ?_
  rw [Option.bind_some, wrap_i64 (by omega) (by omega)]
  obtain ⟨n, rfl⟩ : ∃ n : Nat, tau = n := ⟨tau.toNat, by omega⟩
  have hx : ((n : Int), 1032, (b64 l).length, (8 : Int), (256 : Int) - n, z256, 1032, sp32 l, (b64 l).length, b64 l, z256, ()) = beX n l 8 (256 - n + 0) z256 := by
    unfold beX
    rw [show ((256 - n + 0 : Nat) : Int) = 256 - (n : Int) by omega, hL]
    rfl
  show iter (p_ref15_Ball_l8_F 1133) 1133 ((n : Int), 1032, (b64 l).length, (8 : Int), (256 : Int) - n, z256, 1032, sp32 l, (b64 l).length, b64 l, z256, ()) _ = _
  rw [hx, Int.toNat_natCast]
  refine (be_all (tau := n) (by omega) (N := 1133) (by omega) _ n 0 8 z256 (by omega) rfl ⟨by omega, by omega⟩ _ (by omega)).trans ?_
  cases ballN n l n with
  | none => rfl
  | some v => rfl
theorem q_law15_DringSamples : ∀ x r, g_law15_DringSamples x = some r → ∃ N, p_law15_DringSamples N x = some r := by
  refine Spec_of (ks := p_law15_DringSamples_ks) (rs := p_law15_DringSamples_rs) fun x hw hq => ⟨0, ?_⟩
  obtain ⟨(n : Int), (l : List Int), u⟩ := x
  have hi := hw.1
  have hl := hw.2.1
  have w1 : wfAll [.sl (.int .u8)] (l, ()) := ⟨hl, trivial⟩
  have w2 : wfAll [.int .i64, .sl (.int .u8)] (n, l, ()) := ⟨hi, hl, trivial⟩
  unfold p_law15_DringSamples
  dsimp only
  by_cases h : (l.length : Int) > 1000
  · rw [if_pos h, at_live, Option.bind_some]
    rfl
  · have h1 : g_dring_RejNtt (l, ()) = some (rejS l) := Spec_at (ks := p_dring_RejNtt_ks) (rs := p_dring_RejNtt_rs) (x := (l, ())) w1 trivial
    have h2 : g_ref15_RejNtt (l, ()) = some (rejS l) := Spec_at (ks := p_ref15_RejNtt_ks) (rs := p_ref15_RejNtt_rs) (x := (l, ())) w1 trivial
    have h3 : g_dring_RejBounded (n, l, ()) = some (bndS n l) := Spec_at (ks := p_dring_RejBounded_ks) (rs := p_dring_RejBounded_rs) (x := (n, l, ())) w2 trivial
    have h4 : g_ref15_RejBounded (n, l, ()) = some (bndS n l) := Spec_at (ks := p_ref15_RejBounded_ks) (rs := p_ref15_RejBounded_rs) (x := (n, l, ())) w2 trivial
    have h5 : g_dring_Mask (n, l, ()) = some (maskS n l) := Spec_at (ks := p_dring_Mask_ks) (rs := p_dring_Mask_rs) (x := (n, l, ())) w2 trivial
    have h6 : g_ref15_Mask (n, l, ()) = some (maskS n l) := Spec_at (ks := p_ref15_Mask_ks) (rs := p_ref15_Mask_rs) (x := (n, l, ())) w2 trivial
    have h7 : g_dring_Ball (n, l, ()) = some (ballS n l) := Spec_at (ks := p_dring_Ball_ks) (rs := p_dring_Ball_rs) (x := (n, l, ())) w2 (by show l.length ≤ 1000; omega)
    have h8 : g_ref15_Ball (n, l, ()) = some (ballS n l) := Spec_at (ks := p_ref15_Ball_ks) (rs := p_ref15_Ball_rs) (x := (n, l, ())) w2 (by show l.length ≤ 1000; omega)
    rw [if_neg h, h1, Option.bind_some, h2, Option.bind_some, h3, Option.bind_some, h4, Option.bind_some, at_live, Option.bind_some, if_neg (by simp), if_neg (by simp), if_neg (by simp), if_neg (by simp), if_neg (by simp), h5, Option.bind_some, h6, Option.bind_some, h7, Option.bind_some, h8, Option.bind_some, if_pos rfl, if_pos rfl, if_pos rfl]
    simp
end Go.Ax.TryP
/-! ### The samples are small -/
set_option linter.unusedVariables false
set_option maxRecDepth 4000
namespace Go.Ax.TryP
def nz (v : Int) : Int := if v ≠ 0 then 1 else 0
theorem cnt_zero (h : Nat → Int) : cntN h 0 = 0 := by unfold cntN; rfl
theorem cnt_succ (h : Nat → Int) (n : Nat) : cntN h (n + 1) = cntN h n + nz (h n) := by
  unfold cntN nz
  rw [List.range_succ, List.foldl_append]
  simp only [List.foldl_cons, List.foldl_nil]
  split <;> omega
theorem cnt_set {c : List Int} {i : Nat} (hi : i < c.length) (v : Int) : ∀ n, cntN (fun j => (c.set i v).getD j 0) n = cntN (fun j => c.getD j 0) n + (if i < n then nz v - nz (c.getD i 0) else 0)
  | 0 => by rw [cnt_zero, cnt_zero, if_neg (by omega)]; rfl
  | n + 1 => by
    rw [cnt_succ, cnt_succ, cnt_set hi v n]
    by_cases e : i = n
    · subst e
      rw [if_neg (by omega), if_pos (by omega), getD_set_eq hi]
      omega
    · rw [getD_set_ne e]
      by_cases g : i < n
      · rw [if_pos g, if_pos (by omega)]; omega
      · rw [if_neg g, if_neg (by omega)]; omega
theorem cnt_zeros (n m : Nat) : cntN (fun j => (List.replicate m (0 : Int)).getD j 0) n = 0 := by
  induction n with
  | zero => exact cnt_zero _
  | succ n ih => rw [cnt_succ, ih, getD_replicate]; rfl
/-- What holds of the challenge after k steps. -/
structure BallOk (tau k : Nat) (c : List Int) : Prop where
  len : c.length = 256
  val : ∀ j, c.getD j 0 = 0 ∨ c.getD j 0 = 1 ∨ c.getD j 0 = 8380416
  zer : ∀ j, 256 - tau + k ≤ j → c.getD j 0 = 0
  cnt : cntN (fun j => c.getD j 0) 256 = k
theorem set_at (c : List Int) (i : Nat) (v : Int) (m : Nat) : (c.set i v).getD m 0 = (if i = m ∧ i < c.length then v else c.getD m 0) := by
  by_cases e : i = m
  · subst e
    by_cases h : i < c.length
    · rw [if_pos ⟨rfl, h⟩, getD_set_eq h]
    · rw [if_neg (by omega), getD_out (by rw [List.length_set]; omega), getD_out (by omega)]
  · rw [if_neg (by omega), getD_set_ne e]
theorem ball_step {tau k : Nat} (ht : tau ≤ 64) (hk : k < tau) {c : List Int} (h : BallOk tau k c) {s : List Int} {r : Nat} (hr : shb s r ≤ (256 - tau + k : Nat)) : BallOk tau (k + 1) (ballC s k (256 - tau + k) r c) := by
  have hs := shb_b s r
  obtain ⟨h1, h2, h3, h4⟩ := h
  obtain ⟨j, hj⟩ : ∃ j : Nat, shb s r = j := ⟨(shb s r).toNat, by omega⟩
  have hji : j ≤ 256 - tau + k := by omega
  have hv : (if bitI (shb s (k / 8)) (k % 8) = 1 then (8380416 : Int) else 1) = 1 ∨ (if bitI (shb s (k / 8)) (k % 8) = 1 then (8380416 : Int) else 1) = 8380416 := by split <;> simp
  unfold ballC
  rw [hj, Int.toNat_natCast]
  generalize (if bitI (shb s (k / 8)) (k % 8) = 1 then (8380416 : Int) else 1) = v at hv
  generalize hi : 256 - tau + k = i at hji h3 ⊢
  have hi256 : i < 256 := by omega
  refine ⟨by simp [h1], fun m => ?_, fun m hm => ?_, ?_⟩
  · rw [set_at, set_at]
    have a := h2 m
    have b := h2 j
    split
    · exact .inr hv
    · split
      · exact b
      · exact a
  · have a := h3 m (by omega)
    rw [getD_set_ne (by omega), getD_set_ne (by omega), a]
  · rw [cnt_set (by rw [List.length_set]; omega), cnt_set (by omega), if_pos (by omega), if_pos (by omega), h4, h3 i (by omega)]
    have e : (c.set i (c.getD j 0)).getD j 0 = c.getD j 0 := by
      rw [set_at]
      split
      · rfl
      · rfl
    have en : nz v = 1 := by unfold nz; rcases hv with rfl | rfl <;> rfl
    rw [e, en]
    have : nz 0 = 0 := rfl
    omega
theorem ball_inv {tau : Nat} (ht : tau ≤ 64) {s : List Int} : ∀ k, k ≤ tau → ∀ c p, ballN tau s k = some (c, p) → BallOk tau k c ∧ 8 ≤ p ∧ p ≤ 1032
  | 0, hk, c, p, h => by
    have h : z256 = c ∧ 8 = p := by
      have h' : some (z256, 8) = some (c, p) := h
      simpa using h'
    obtain ⟨rfl, rfl⟩ := h
    refine ⟨⟨List.length_replicate .., fun j => .inl (getD_replicate 256 j), fun j _ => getD_replicate 256 j, cnt_zeros 256 256⟩, by omega, by omega⟩
  | k + 1, hk, c, p, h => by
    rw [ballN] at h
    cases e : ballN tau s k with
    | none => rw [e] at h; exact absurd h (by simp)
    | some v =>
      obtain ⟨c0, p0⟩ := v
      obtain ⟨i1, i2, i3⟩ := ball_inv ht k (by omega) c0 p0 e
      obtain ⟨a1, a2, a3⟩ := skip_b (s := s) (i := 256 - tau + k) 1032 p0 i3 (by omega)
      rw [e] at h
      dsimp only at h
      by_cases hr : skipB s (256 - tau + k) 1032 p0 = 1032
      · rw [if_pos hr] at h; exact absurd h (by simp)
      · rw [if_neg hr] at h
        obtain ⟨rfl, rfl⟩ : ballC s k (256 - tau + k) (skipB s (256 - tau + k) 1032 p0) c0 = c ∧ skipB s (256 - tau + k) 1032 p0 + 1 = p := by simpa using h
        exact ⟨ball_step ht (by omega) i1 (a3 (by omega)), by omega, by omega⟩
theorem i32s_of {c : List Int} (h1 : c.length = 256) (h : ∀ j, -2147483648 ≤ c.getD j 0 ∧ c.getD j 0 ≤ 2147483647) : i32s 256 c :=
  ⟨h1, fun z hz => by
    obtain ⟨i, hi, rfl⟩ := List.mem_iff_getElem.1 hz
    have := h i
    rwa [List.getD_eq_getElem?_getD, List.getElem?_eq_getElem hi, Option.getD_some] at this⟩
theorem ball_ok {tau : Nat} (ht : 1 ≤ tau ∧ tau ≤ 64) (s : List Int) : ((ballS tau s).2 = 130 ∧ i32s 256 (ballS tau s).1) ∨ ((ballS tau s).2 = 0 ∧ i32s 256 (ballS tau s).1 ∧ cntN (fun j => (ballS tau s).1.getD j 0) 256 = tau ∧ fNorm (ballS tau s).1 = 1) := by
  unfold ballS
  rw [if_neg (by omega), Int.toNat_natCast]
  cases e : ballN tau s tau with
  | none => exact .inl ⟨rfl, i32s_of (List.length_replicate ..) fun j => by rw [show (List.replicate 256 (0 : Int)).getD j 0 = 0 from getD_replicate 256 j]; omega⟩
  | some v =>
    obtain ⟨c, p⟩ := v
    obtain ⟨⟨h1, h2, h3, h4⟩, _⟩ := ball_inv (tau := tau) (by omega) tau (by omega) c p e
    dsimp only
    refine .inr ⟨rfl, i32s_of h1 fun j => by have := h2 j; omega, h4, ?_⟩
    have a : fNorm c ≤ 1 := (normN_le (by omega)).2 fun i _ => by
      have := h2 i
      unfold fCen iabs
      rcases this with e | e | e <;> rw [e] <;> decide
    have b : ¬ fNorm c ≤ 0 := fun h => by
      have g := (normN_le (by omega)).1 h
      have z : ∀ i, i < 256 → c.getD i 0 = 0 := fun i hi => by
        have g1 := g i hi
        rcases h2 i with e | e | e
        · exact e
        · rw [e] at g1; exact absurd g1 (by decide)
        · rw [e] at g1; exact absurd g1 (by decide)
      have : ∀ n, n ≤ 256 → cntN (fun j => c.getD j 0) n = 0 := fun n => by
        induction n with
        | zero => intro _; exact cnt_zero _
        | succ n ih => intro hn; rw [cnt_succ, ih (by omega), z n (by omega)]; rfl
      have := this 256 (by omega)
      omega
    omega
theorem fCen_mod {x : Int} (h : -4190208 ≤ x ∧ x ≤ 4190208) : fCen (x % 8380417) = x := by unfold fCen; split <;> omega
theorem fCen_self {x : Int} (h : -4190208 ≤ x ∧ x ≤ 4190208) : fCen x = x := by unfold fCen; split <;> omega
theorem acc_all {f : Nat → List Int} {P : Int → Prop} (h : ∀ t, ∀ z ∈ f t, P z) : ∀ n, ∀ z ∈ accF f n, P z
  | 0, z, hz => absurd hz (by simp [accF])
  | n + 1, z, hz => by
    rcases List.mem_append.1 hz with g | g
    · exact acc_all h n z g
    · exact h n z g
theorem val_norm {eta : Int} (he : eta = 2 ∨ eta = 4) {h : Int} (hh : 0 ≤ h) : ∀ z ∈ valB eta h, (0 ≤ z ∧ z < 8380417) ∧ iabs (fCen z) ≤ eta := by
  intro z hz
  by_cases k : okH eta h
  · rw [val_yes k, List.mem_singleton] at hz
    have hb : -eta ≤ nmH eta h ∧ nmH eta h ≤ eta := by
      unfold nmH
      unfold okH at k
      rcases he with rfl | rfl
      · rw [if_pos rfl]; omega
      · rw [if_neg (by omega)]; omega
    subst hz
    rw [fCen_mod (by omega)]
    unfold iabs
    exact ⟨by omega, by split <;> omega⟩
  · rw [val_no he k] at hz
    exact absurd hz (by simp)
theorem bnd_norm {eta : Int} (he : eta = 2 ∨ eta = 4) {s : List Int} (h : (bndS eta s).2 = 0) : i32s 256 (bndS eta s).1 ∧ fNorm (bndS eta s).1 ≤ eta := by
  unfold bndS at h ⊢
  by_cases h1 : (eta ≠ 2 ∧ eta ≠ 4) ∨ s.length ≠ 66
  · rw [if_pos h1] at h; exact absurd h (by decide)
  rw [if_neg h1] at h ⊢
  by_cases h2 : (accF (bndF eta s) 2048).length < 256
  · rw [if_pos h2] at h; exact absurd h (by decide)
  rw [if_neg h2]
  have ha : ∀ z ∈ (accF (bndF eta s) 2048).take 256, (0 ≤ z ∧ z < 8380417) ∧ iabs (fCen z) ≤ eta := fun z hz =>
    acc_all (P := fun z => (0 ≤ z ∧ z < 8380417) ∧ iabs (fCen z) ≤ eta) (fun t => val_norm he (halfB_b s t).1) 2048 z (List.mem_of_mem_take hz)
  have hl : ((accF (bndF eta s) 2048).take 256).length = 256 := by rw [List.length_take]; omega
  dsimp only
  generalize (accF (bndF eta s) 2048).take 256 = c at ha hl ⊢
  refine ⟨⟨hl, fun z hz => by have := ha z hz; omega⟩, (normN_le (by omega)).2 fun i hi => (ha _ (getD_mem (by rw [hl]; exact hi))).2⟩
theorem mask_norm {w : Int} (hw : w = 18 ∨ w = 20) {s : List Int} (h : (maskS w s).2 = 0) : i32s 256 (maskS w s).1 ∧ fNorm (maskS w s).1 ≤ 2 ^ (w - 1).toNat := by
  unfold maskS at h ⊢
  by_cases h1 : (w ≠ 18 ∧ w ≠ 20) ∨ s.length ≠ 66
  · rw [if_pos h1] at h; exact absurd h (by decide)
  rw [if_neg h1]
  dsimp only
  generalize spongeS 136 31 s (32 * w.toNat) = b
  have hp : (2 : Int) ^ (w - 1).toNat ≤ 524288 ∧ (2 : Int) ^ w.toNat = 2 * 2 ^ (w - 1).toNat := by
    obtain ⟨n, hn, e1, e2⟩ : ∃ n : Nat, n ≤ 19 ∧ (w - 1).toNat = n ∧ w.toNat = n + 1 := ⟨(w - 1).toNat, by omega, rfl, by omega⟩
    rw [e1, e2, Int.pow_succ, Int.mul_comm]
    have : 2 ^ n ≤ 2 ^ 19 := Nat.pow_le_pow_right (by omega) hn
    have e : ((2 ^ n : Nat) : Int) = (2 : Int) ^ n := by simp
    exact ⟨by omega, rfl⟩
  have hp0 := pow2_pos (w - 1).toNat
  have hv : ∀ i, 0 ≤ (sumB w.toNat fun k => bitAt b (i * w.toNat + k)) ∧ (sumB w.toNat fun k => bitAt b (i * w.toNat + k)) < 2 ^ w.toNat := fun i => sumB_b fun s _ => bitAt_b b _
  have hg : ∀ i, i < 256 → (unpFromS (2 ^ (w - 1).toNat) w.toNat b).getD i 0 = 2 ^ (w - 1).toNat - sumB w.toNat fun k => bitAt b (i * w.toNat + k) := fun i hi => dpoly_getD hi
  have hl : (unpFromS (2 ^ (w - 1).toNat) w.toNat b).length = 256 := dpoly_len _
  generalize unpFromS (2 ^ (w - 1).toNat) w.toNat b = c at hg hl
  refine ⟨i32s_of hl fun i => ?_, (normN_le (by omega)).2 fun i hi => ?_⟩
  · by_cases hi : i < 256
    · have := hv i
      rw [hg i hi]
      omega
    · rw [getD_out (by omega)]
      omega
  · have := hv i
    rw [hg i hi, fCen_self (by omega)]
    unfold iabs
    split <;> omega
end Go.Ax.TryP
/-! ### The law that the samples are small -/
set_option linter.unusedVariables false
set_option maxRecDepth 4000
namespace Go.Ax.TryP
abbrev L1 := Nat × Int × Int × Nat × List Int × List Int × Unit
abbrev L2 := (Bool × Unit) ⊕ (Nat × Nat × List Int × Unit)
abbrev L3 := (Bool × Unit) ⊕ Unit
theorem small_16 {l : List Int} (hl : l.length ≤ maxLen ∧ ∀ z ∈ l, 0 ≤ z ∧ z ≤ 255) {N : Nat} (hN : 3 < N) (K : L2 → Option Bool) :
    iter (p_law15_DringSmall_l16_F N) N (l.length, (2 : Int), (0 : Int), l.length, l, [2, 4], ()) K = K (.inr (l.length, l.length, l, ())) := by
  refine iter_run (F := p_law15_DringSmall_l16_F N) (s := fun i => (l.length, (2 : Int), (i : Int), l.length, l, [2, 4], ())) (y := .inr (l.length, l.length, l, ())) 2 ?_ ?_ N (by omega)
  · intro i hi kn
    have he : ([2, 4] : List Int).getD i 0 = 2 ∨ ([2, 4] : List Int).getD i 0 = 4 := by
      rcases (by omega : i = 0 ∨ i = 1) with rfl | rfl
      · exact .inl rfl
      · exact .inr rfl
    unfold p_law15_DringSmall_l16_F
    dsimp only
    rw [if_pos (by omega), if_pos (by omega), if_pos (by omega), if_pos (by omega), Int.toNat_natCast]
    generalize ([2, 4] : List Int).getD i 0 = eta at he
    have h1 : g_dring_RejBounded (eta, l, ()) = some (bndS eta l) := Spec_at (ks := p_dring_RejBounded_ks) (rs := p_dring_RejBounded_rs) (x := (eta, l, ())) (wf_ib.2 ⟨by omega, hl⟩) trivial
    rw [h1, Option.bind_some, wrap_i64 (by omega) (by omega), wrap_i32 (by omega) (by omega)]
    by_cases h0 : (bndS eta l).2 = 0
    · obtain ⟨a, b⟩ := bnd_norm he h0
      rw [if_pos h0, at_Norm a, Option.bind_some, if_neg (by omega)]
      rfl
    · rw [if_neg h0]
      rfl
  · intro kn
    unfold p_law15_DringSmall_l16_F
    dsimp only
    rw [if_neg (by omega)]
theorem small_23 {l : List Int} (hl : l.length ≤ maxLen ∧ ∀ z ∈ l, 0 ≤ z ∧ z ≤ 255) {N : Nat} (hN : 3 < N) (K : L3 → Option Bool) :
    iter (p_law15_DringSmall_l23_F N) N (l.length, (2 : Int), (0 : Int), l.length, l, [18, 20], ()) K = K (.inr ()) := by
  refine iter_run (F := p_law15_DringSmall_l23_F N) (s := fun i => (l.length, (2 : Int), (i : Int), l.length, l, [18, 20], ())) (y := .inr ()) 2 ?_ ?_ N (by omega)
  · intro i hi kn
    have he : ([18, 20] : List Int).getD i 0 = 18 ∨ ([18, 20] : List Int).getD i 0 = 20 := by
      rcases (by omega : i = 0 ∨ i = 1) with rfl | rfl
      · exact .inl rfl
      · exact .inr rfl
    unfold p_law15_DringSmall_l23_F
    dsimp only
    rw [if_pos (by omega), if_pos (by omega), if_pos (by omega), if_pos (by omega), Int.toNat_natCast]
    generalize ([18, 20] : List Int).getD i 0 = w at he
    have h1 : g_dring_Mask (w, l, ()) = some (maskS w l) := Spec_at (ks := p_dring_Mask_ks) (rs := p_dring_Mask_rs) (x := (w, l, ())) (wf_ib.2 ⟨by omega, hl⟩) trivial
    rw [h1, Option.bind_some, wrap_i64 (x := (i : Int) + 1) (by omega) (by omega)]
    by_cases h0 : (maskS w l).2 = 0
    · obtain ⟨a, b⟩ := mask_norm he h0
      have e1 : IntKind.u64.wrap (IntKind.i64.wrap (w - 1)) = ((w - 1).toNat : Int) := by rw [wrap_i64 (by omega) (by omega), wrap_u64 (by omega) (by omega)]; omega
      have e2 : ishl IntKind.i32 1 ((w - 1).toNat : Int) = 2 ^ (w - 1).toNat := by
        have hp : 2 ^ (w - 1).toNat ≤ 2 ^ 19 := Nat.pow_le_pow_right (by omega) (by omega)
        refine (ishl_i32 (m := 1) (s := (w - 1).toNat) (by omega) (by omega)).trans ?_
        simp
      rw [if_pos h0, at_Norm a, Option.bind_some, e1, if_neg (by omega), e2, if_neg (by omega)]
      rfl
    · rw [if_neg h0]
      rfl
  · intro kn
    unfold p_law15_DringSmall_l23_F
    dsimp only
    rw [if_neg (by omega)]
theorem small_8 {l c : List Int} {k : Int} {N : Nat} (hN : 257 < N) (K : L1 → Option Bool) :
    iter (p_law15_DringSmall_l8_F N) N (l.length, k, (0 : Int), (0 : Int), l.length, l, c, ()) K = K (l.length, k, cntN (fun j => c.getD j 0) 256, l.length, l, c, ()) := by
  refine iter_from (F := p_law15_DringSmall_l8_F N) (s := fun i => (l.length, k, cntN (fun j => c.getD j 0) i, (i : Int), l.length, l, c, ())) (y := (l.length, k, cntN (fun j => c.getD j 0) 256, l.length, l, c, ())) 256 ?_ ?_ ?_ N (by omega)
  · rw [cnt_zero]
    rfl
  · intro i hi kn
    have hb := cntN_b (fun j => c.getD j 0) i
    unfold p_law15_DringSmall_l8_F
    dsimp only
    rw [if_pos (by omega), if_pos (by omega), if_pos (by omega), if_pos (by omega), Int.toNat_natCast, cntN_succ, wrap_i64 (by omega) (by omega), wrap_i64 (by omega) (by omega)]
    by_cases h : c.getD i 0 ≠ 0
    · rw [if_pos h, if_pos h]
      rfl
    · rw [if_neg h, if_neg h]
      rfl
  · intro kn
    unfold p_law15_DringSmall_l8_F
    dsimp only
    rw [if_neg (by omega)]
theorem q_law15_DringSmall : ∀ x r, g_law15_DringSmall x = some r → ∃ N, p_law15_DringSmall N x = some r := by
  refine Spec_of (ks := p_law15_DringSmall_ks) (rs := p_law15_DringSmall_rs) fun x hw hq => ⟨300, ?_⟩
  obtain ⟨(l : List Int), u⟩ := x
  have hl : l.length ≤ maxLen ∧ ∀ z ∈ l, 0 ≤ z ∧ z ≤ 255 := wf_bytes.1 hw.1
  unfold p_law15_DringSmall
  dsimp only
  by_cases h : (l.length : Int) > 1000
  · rw [if_pos h, at_live, Option.bind_some]
    rfl
  · have h7 : g_dring_Ball (((49 : Nat) : Int), l, ()) = some (ballS ((49 : Nat) : Int) l) := Spec_at (ks := p_dring_Ball_ks) (rs := p_dring_Ball_rs) (x := (((49 : Nat) : Int), l, ())) (wf_ib.2 ⟨by omega, hl⟩) (show l.length ≤ 1000 by omega)
    rw [if_neg h]
    refine (congrArg (fun o => Option.bind o _) h7).trans ?_
    rw [Option.bind_some, at_live, Option.bind_some, if_neg (by simp)]
    have hb := ball_ok (tau := 49) (by omega) l
    generalize ballS ((49 : Nat) : Int) l = r at hb
    obtain ⟨c, k⟩ := r
    dsimp only at hb ⊢
    have e1 : List.set (List.set (List.replicate 2 (0 : Int)) 0 2) 1 4 = [2, 4] := rfl
    have e2 : List.set (List.set (List.replicate 2 (0 : Int)) 0 18) 1 20 = [18, 20] := rfl
    rw [e1, e2]
    rcases hb with ⟨rfl, a⟩ | ⟨rfl, a, b, d⟩
    · rw [if_pos (by omega), if_neg (by omega), small_8 (by omega)]
      dsimp only
      rw [if_neg (by omega), small_16 hl (by omega)]
      dsimp only
      rw [small_23 hl (by omega)]
    · rw [if_neg (by omega), small_8 (by omega)]
      dsimp only
      rw [if_pos rfl, b, if_neg (by omega), at_Norm a, Option.bind_some, d, if_neg (by omega), small_16 hl (by omega)]
      dsimp only
      rw [small_23 hl (by omega)]
end Go.Ax.TryP
/-! Printed by program (wires.py): the functions keep their signatures. -/
namespace Go.Ax.TryP
theorem s_bits_RotateLeft64 : SigOk Go.Proofs.Try.prog 99 ⟨[.int .u64, .int .i64], [.int .u64], g_bits_RotateLeft64⟩ := p_bits_RotateLeft64_ok q_bits_RotateLeft64
theorem s_ref03_turn : SigOk Go.Proofs.Try.prog 100 ⟨[.int .u64, .int .i64], [.int .u64], g_ref03_turn⟩ := p_ref03_turn_ok q_ref03_turn
theorem s_keccak_offsets : SigOk Go.Proofs.Try.prog 94 ⟨[], [.xs (.int .i64) 25], g_keccak_offsets⟩ := p_keccak_offsets_ok q_keccak_offsets
theorem s_keccak_constants : SigOk Go.Proofs.Try.prog 95 ⟨[], [.xs (.int .u64) 24], g_keccak_constants⟩ := p_keccak_constants_ok q_keccak_constants
theorem s_ref03_constants : SigOk Go.Proofs.Try.prog 97 ⟨[], [.xs (.int .u64) 24], g_ref03_constants⟩ := p_ref03_constants_ok q_ref03_constants
theorem s_keccak_mixed : SigOk Go.Proofs.Try.prog 96 ⟨[.xs (.int .u64) 25, .rp (.xs (.int .i64) 25)], [.xs (.int .u64) 25], g_keccak_mixed⟩ := p_keccak_mixed_ok s_bits_RotateLeft64 q_keccak_mixed
theorem s_ref03_round : SigOk Go.Proofs.Try.prog 98 ⟨[.xs (.int .u64) 25, .int .u64], [.xs (.int .u64) 25], g_ref03_round⟩ := p_ref03_round_ok s_ref03_turn q_ref03_round
theorem s_keccak_Permute : SigOk Go.Proofs.Try.prog 89 ⟨[.xs (.int .u64) 25], [.xs (.int .u64) 25], g_keccak_Permute⟩ := p_keccak_Permute_ok s_keccak_offsets s_keccak_constants s_keccak_mixed q_keccak_Permute
theorem s_ref03_Permute : SigOk Go.Proofs.Try.prog 91 ⟨[.xs (.int .u64) 25], [.xs (.int .u64) 25], g_ref03_Permute⟩ := p_ref03_Permute_ok s_ref03_constants s_ref03_round q_ref03_Permute
theorem s_keccak_sponge_put : SigOk Go.Proofs.Try.prog 93 ⟨[.io [.xs (.int .u64) 25, .int .i64, .int .i64], .int .u8], [.cat [.xs (.int .u64) 25, .int .i64, .int .i64]], g_keccak_sponge_put⟩ := p_keccak_sponge_put_ok q_keccak_sponge_put
theorem s_keccak_sponge_takes : SigOk Go.Proofs.Try.prog 88 ⟨[.io [.xs (.int .u64) 25, .int .i64, .int .i64], .int .u8, .sls (.int .u8)], [.cat [.xs (.int .u64) 25, .int .i64, .int .i64]], g_keccak_sponge_takes⟩ := p_keccak_sponge_takes_ok s_keccak_sponge_put s_keccak_Permute q_keccak_sponge_takes
theorem s_keccak_sponge_gives : SigOk Go.Proofs.Try.prog 85 ⟨[.io [.xs (.int .u64) 25, .int .i64, .int .i64], .ios (.int .u8)], [.cat [.xs (.int .u64) 25, .int .i64, .int .i64], .xv (.int .u8)], g_keccak_sponge_gives⟩ := p_keccak_sponge_gives_ok s_keccak_Permute q_keccak_sponge_gives
theorem s_keccak_Xof_none : SigOk Go.Proofs.Try.prog 84 ⟨[.io [.bool, .xs (.int .u64) 25, .int .i64, .int .i64, .int .i64]], [.bool, .cat [.bool, .xs (.int .u64) 25, .int .i64, .int .i64, .int .i64]], g_keccak_Xof_none⟩ := p_keccak_Xof_none_ok q_keccak_Xof_none
theorem s_keccak_may : SigOk Go.Proofs.Try.prog 79 ⟨[.int .i64], [.int .i64], g_keccak_may⟩ := p_keccak_may_ok q_keccak_may
theorem s_keccak_Xof_Read : SigOk Go.Proofs.Try.prog 73 ⟨[.io [.bool, .xs (.int .u64) 25, .int .i64, .int .i64, .int .i64], .int .i64], [.sl (.int .u8), .int .i64, .cat [.bool, .xs (.int .u64) 25, .int .i64, .int .i64, .int .i64]], g_keccak_Xof_Read⟩ := p_keccak_Xof_Read_ok s_keccak_Xof_none s_keccak_may s_keccak_sponge_gives q_keccak_Xof_Read
theorem s_keccak_started : SigOk Go.Proofs.Try.prog 83 ⟨[.int .i64, .sls (.int .u8)], [.op [.bool, .xs (.int .u64) 25, .int .i64, .int .i64, .int .i64]], g_keccak_started⟩ := p_keccak_started_ok s_keccak_sponge_takes q_keccak_started
theorem s_keccak_Shake128 : SigOk Go.Proofs.Try.prog 72 ⟨[.sls (.int .u8)], [.op [.bool, .xs (.int .u64) 25, .int .i64, .int .i64, .int .i64]], g_keccak_Shake128⟩ := p_keccak_Shake128_ok s_keccak_started q_keccak_Shake128
theorem s_ref01_Join : SigOk Go.Proofs.Try.prog 90 ⟨[.sls (.int .u8)], [.sl (.int .u8)], g_ref01_Join⟩ := p_ref01_Join_ok q_ref01_Join
theorem s_ref03_bytes : SigOk Go.Proofs.Try.prog 92 ⟨[.xs (.int .u64) 25, .int .i64], [.sl (.int .u8)], g_ref03_bytes⟩ := p_ref03_bytes_ok q_ref03_bytes
theorem s_ref03_Sponge : SigOk Go.Proofs.Try.prog 86 ⟨[.int .i64, .int .u8, .sl (.int .u8), .int .i64], [.sl (.int .u8)], g_ref03_Sponge⟩ := p_ref03_Sponge_ok s_ref01_Join s_ref03_Permute s_ref03_bytes q_ref03_Sponge
theorem s_ref03_Shake : SigOk Go.Proofs.Try.prog 74 ⟨[.int .i64, .int .i64, .sl (.int .u8)], [.sl (.int .u8)], g_ref03_Shake⟩ := p_ref03_Shake_ok s_ref03_Sponge q_ref03_Shake
theorem s_keccak_Shake256 : SigOk Go.Proofs.Try.prog 80 ⟨[.sls (.int .u8)], [.op [.bool, .xs (.int .u64) 25, .int .i64, .int .i64, .int .i64]], g_keccak_Shake256⟩ := p_keccak_Shake256_ok s_keccak_started q_keccak_Shake256
theorem s_keccak_Shake : SigOk Go.Proofs.Try.prog 69 ⟨[.int .i64, .int .i64, .sls (.int .u8)], [.sl (.int .u8), .int .i64], g_keccak_Shake⟩ := p_keccak_Shake_ok s_keccak_may s_keccak_Shake128 s_keccak_Xof_Read s_keccak_Shake256 q_keccak_Shake
theorem s_dring_RejNtt : SigOk Go.Proofs.Try.prog 50 ⟨[.sl (.int .u8)], [.xs (.int .i32) 256, .int .i64], g_dring_RejNtt⟩ := p_dring_RejNtt_ok s_keccak_Shake128 s_keccak_Xof_Read q_dring_RejNtt
theorem s_ref15_RejNtt : SigOk Go.Proofs.Try.prog 51 ⟨[.sl (.int .u8)], [.xs (.int .i32) 256, .int .i64], g_ref15_RejNtt⟩ := p_ref15_RejNtt_ok s_ref03_Shake q_ref15_RejNtt
theorem s_dring_half : SigOk Go.Proofs.Try.prog 70 ⟨[.int .i64, .int .u8], [.int .i32, .bool], g_dring_half⟩ := p_dring_half_ok q_dring_half
theorem s_dring_RejBounded : SigOk Go.Proofs.Try.prog 48 ⟨[.int .i64, .sl (.int .u8)], [.xs (.int .i32) 256, .int .i64], g_dring_RejBounded⟩ := p_dring_RejBounded_ok s_keccak_Shake s_dring_half s_dring_below q_dring_RejBounded
theorem s_ref15_RejBounded : SigOk Go.Proofs.Try.prog 52 ⟨[.int .i64, .sl (.int .u8)], [.xs (.int .i32) 256, .int .i64], g_ref15_RejBounded⟩ := p_ref15_RejBounded_ok s_ref03_Shake s_ref15_mod q_ref15_RejBounded
theorem s_ref01_Bits : SigOk Go.Proofs.Try.prog 77 ⟨[.sl (.int .u8)], [.sl .bool], g_ref01_Bits⟩ := p_ref01_Bits_ok q_ref01_Bits
theorem s_ref15_width : SigOk Go.Proofs.Try.prog 76 ⟨[.int .i64], [.int .i64], g_ref15_width⟩ := p_ref15_width_ok q_ref15_width
theorem s_dring_Unpack : SigOk Go.Proofs.Try.prog 81 ⟨[.int .i64, .sl (.int .u8)], [.xs (.int .i32) 256, .int .i64], g_dring_Unpack⟩ := p_dring_Unpack_ok q_dring_Unpack
theorem s_ref15_Unpack : SigOk Go.Proofs.Try.prog 87 ⟨[.int .i64, .sl (.int .u8)], [.xs (.int .i32) 256, .int .i64], g_ref15_Unpack⟩ := p_ref15_Unpack_ok s_ref01_Bits q_ref15_Unpack
theorem s_dring_UnpackFrom_1 : SigOk Go.Proofs.Try.prog 82 ⟨[.int .i32, .rp (.int .i32)], [.int .i32], g_dring_UnpackFrom_1⟩ := p_dring_UnpackFrom_1_ok q_dring_UnpackFrom_1
theorem s_dring_each__dring_UnpackFrom_1 : SigOk Go.Proofs.Try.prog 57 ⟨[.xs (.int .i32) 256, .fcl 82 .i32], [.xs (.int .i32) 256], g_dring_each__dring_UnpackFrom_1⟩ := p_dring_each__dring_UnpackFrom_1_ok s_dring_UnpackFrom_1 q_dring_each__dring_UnpackFrom_1
theorem s_dring_UnpackFrom : SigOk Go.Proofs.Try.prog 71 ⟨[.int .i32, .int .i64, .sl (.int .u8)], [.xs (.int .i32) 256, .int .i64], g_dring_UnpackFrom⟩ := p_dring_UnpackFrom_ok s_dring_Unpack s_dring_each__dring_UnpackFrom_1 q_dring_UnpackFrom
theorem s_ref15_UnpackFrom : SigOk Go.Proofs.Try.prog 75 ⟨[.int .i32, .int .i64, .sl (.int .u8)], [.xs (.int .i32) 256, .int .i64], g_ref15_UnpackFrom⟩ := p_ref15_UnpackFrom_ok s_ref15_Unpack q_ref15_UnpackFrom
theorem s_dring_Mask : SigOk Go.Proofs.Try.prog 49 ⟨[.int .i64, .sl (.int .u8)], [.xs (.int .i32) 256, .int .i64], g_dring_Mask⟩ := p_dring_Mask_ok s_keccak_Shake s_dring_UnpackFrom q_dring_Mask
theorem s_ref15_Mask : SigOk Go.Proofs.Try.prog 53 ⟨[.int .i64, .sl (.int .u8)], [.xs (.int .i32) 256, .int .i64], g_ref15_Mask⟩ := p_ref15_Mask_ok s_ref15_width s_ref03_Shake s_ref15_UnpackFrom q_ref15_Mask
theorem s_dring_Ball : SigOk Go.Proofs.Try.prog 47 ⟨[.int .i64, .sl (.int .u8)], [.xs (.int .i32) 256, .int .i64], g_dring_Ball⟩ := p_dring_Ball_ok s_keccak_Shake q_dring_Ball
theorem s_ref15_Ball : SigOk Go.Proofs.Try.prog 54 ⟨[.int .i64, .sl (.int .u8)], [.xs (.int .i32) 256, .int .i64], g_ref15_Ball⟩ := p_ref15_Ball_ok s_ref03_Shake s_ref01_Bits q_ref15_Ball
theorem s_law15_DringSamples : SigOk Go.Proofs.Try.prog 12 ⟨[.int .i64, .sl (.int .u8)], [.bool], g_law15_DringSamples⟩ := p_law15_DringSamples_ok s_law15_live s_dring_RejNtt s_ref15_RejNtt s_dring_RejBounded s_ref15_RejBounded s_dring_Mask s_ref15_Mask s_dring_Ball s_ref15_Ball q_law15_DringSamples
theorem s_law15_DringSmall : SigOk Go.Proofs.Try.prog 11 ⟨[.sl (.int .u8)], [.bool], g_law15_DringSmall⟩ := p_law15_DringSmall_ok s_law15_live s_dring_Ball s_dring_Norm s_dring_RejBounded s_dring_Mask q_law15_DringSmall
end Go.Ax.TryP
