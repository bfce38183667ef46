/- A part of the proof: RingP1. -/
import Derived.Test.YtefpbeklpfihfaaRingS
/-! Printed by program (gen.py). -/
set_option linter.unusedVariables false
namespace Go.Ax.TryP
/-! livery/ring.Reduce -/
noncomputable def p37_E : AE := AE.of [(22, ty22), (24, ty24)] []
noncomputable def p37_H : Hints := [(2, [1, 2, 4]), (2000000, [1, 2]), (2000001, [1, 2, 4]), (3000000, [2])]
noncomputable def p37_c : Code := (Go.Proofs.Try.f37).body.getD .skip
noncomputable def p37_l2_S : Shape where
  h := { tmps := [.any, .sc (.ptr 0 0 false), .sc (.ptr 1 0 false), .any, .sc (.int .i64), .any, .any, .any, .any, .any, .any, .any, .any, .any], mem := [.live [.xs (.int .u16) (some 256)] true, .live [.xs (.int .u16) (some 256)] true] }
  ks := [.int, .xs, .xs]
  st := fun x => { tmps := [.one .any, .one (.sc (.ptr 0 0 none)), .one (.sc (.ptr 1 0 none)), .one .any, .one (.sc (.int .i64 x.1)), .one .any, .one .any, .one .any, .one .any, .one .any, .one .any, .one .any, .one .any, .one .any], mem := [.live { segs := [.xs (.int .u16) 256 x.2.1], own := true }, .live { segs := [.xs (.int .u16) 256 x.2.2.1], own := true }] }
noncomputable def p37_l2_F (N : Nat) (β : Type) (x : (Int × List Int × List Int × Unit)) (kn : (Int × List Int × List Int × Unit) → Option β) (ke : ((List Int × List Int × Unit)) → Option β) : Option β :=
  if (x.1 < (256:Int)) then
    if 0 ≤ x.1 then (
    if x.1 < 256 then (
    if (x.1.toNat) < 256 then (
    if 0 ≤ x.1 then (
    if x.1 < 256 then (
    if (x.1.toNat) < 256 then (
    kn ((IntKind.i64.wrap (x.1 + (1:Int))), (List.set x.2.1 (x.1.toNat) (Int.tmod (List.getD x.2.1 (x.1.toNat) 0) (3329:Int))), x.2.2.1, ())) else none) else none) else none) else none) else none) else none
  else
    ke (x.2.1, x.2.2.1, ())
noncomputable def p37_l2_go : Go' ((List Int × List Int × Unit)) := fun y K => K (.exit 0) { tmps := [.one .any, .one (.sc (.ptr 0 0 none)), .one (.sc (.ptr 1 0 none)), .one .any, .one .any, .one .any, .one .any, .one .any, .one .any, .one .any, .one .any, .one .any, .one .any, .one .any], mem := [.live { segs := [.xs (.int .u16) 256 y.1], own := true }, .live { segs := [.xs (.int .u16) 256 y.2.1], own := true }] }
noncomputable def p37_l2_L (N : Nat) : LT := upd (LT.nil) 2 (loopE p37_l2_S N (p37_l2_F N) p37_l2_go)
theorem p37_l2_ok (N : Nat) : OkAll p37_E p37_H N (p37_l2_L N) (subs p37_c) :=
  addLoop (c := theLoop 2 p37_c) (OkAll.nil) (by kernel_rfl) (fun x => by kernel_rfl) (fun β x kn ke => by kernel_rfl)
abbrev p37_ks : List Kd := [.xs (.int .u16) 256]
abbrev p37_rs : List Kd := [.xs (.int .u16) 256]
noncomputable def p37 (N : Nat) (x : List Int × Unit) : Option (List Int) :=
  iter (p37_l2_F N) N ((0:Int), x.1, (List.replicate 256 0), ()) fun y1 => (
  some y1.1)
theorem p37_eq (N : Nat) (x : Ds [.xs (.int .u16) 256]) : funL p37_E p37_H (p37_l2_L N) N Go.Proofs.Try.f37 p37_c [.xs (.int .u16) 256] [.xs (.int .u16) 256] x = p37 N x := by kernel_rfl
theorem p37_Eok : p37_E.Ok Go.Proofs.Try.prog := AE.of_ok (all_cons ty22_ok (all_cons ty24_ok all_nil)) all_nil
theorem p37_ok {g : Ds [.xs (.int .u16) 256] → Option (Rs [.xs (.int .u16) 256])} (hg : ∀ x r, g x = some r → ∃ N, p37 N x = some r) : SigOk Go.Proofs.Try.prog 37 ⟨[.xs (.int .u16) 256], [.xs (.int .u16) 256], g⟩ :=
  fun_of (E := p37_E) (H := p37_H) (L := fun N => p37_l2_L N) (c := p37_c) (ks := p37_ks) (rs := p37_rs) (F := p37) (p37_Eok) mix Go.Proofs.Try.func37 (by kernel_rfl) (fun N => p37_l2_ok N) p37_eq hg

/-! livery/liveryref13.Reduce -/
noncomputable def p38_E : AE := AE.of [(22, ty22), (24, ty24)] []
noncomputable def p38_H : Hints := [(2, [1, 2, 4]), (2000000, [1, 2]), (2000001, [1, 2, 4]), (3000000, [2])]
noncomputable def p38_c : Code := (Go.Proofs.Try.f38).body.getD .skip
noncomputable def p38_l2_S : Shape where
  h := { tmps := [.any, .sc (.ptr 0 0 false), .sc (.ptr 1 0 false), .any, .sc (.int .i64), .any, .any, .any, .any, .any, .any, .any, .any, .any], mem := [.live [.xs (.int .u16) (some 256)] true, .live [.xs (.int .u16) (some 256)] true] }
  ks := [.int, .xs, .xs]
  st := fun x => { tmps := [.one .any, .one (.sc (.ptr 0 0 none)), .one (.sc (.ptr 1 0 none)), .one .any, .one (.sc (.int .i64 x.1)), .one .any, .one .any, .one .any, .one .any, .one .any, .one .any, .one .any, .one .any, .one .any], mem := [.live { segs := [.xs (.int .u16) 256 x.2.1], own := true }, .live { segs := [.xs (.int .u16) 256 x.2.2.1], own := true }] }
noncomputable def p38_l2_F (N : Nat) (β : Type) (x : (Int × List Int × List Int × Unit)) (kn : (Int × List Int × List Int × Unit) → Option β) (ke : ((List Int × List Int × Unit)) → Option β) : Option β :=
  if (x.1 < (256:Int)) then
    if 0 ≤ x.1 then (
    if x.1 < 256 then (
    if (x.1.toNat) < 256 then (
    if 0 ≤ x.1 then (
    if x.1 < 256 then (
    if (x.1.toNat) < 256 then (
    kn ((IntKind.i64.wrap (x.1 + (1:Int))), (List.set x.2.1 (x.1.toNat) (Int.tmod (List.getD x.2.1 (x.1.toNat) 0) (3329:Int))), x.2.2.1, ())) else none) else none) else none) else none) else none) else none
  else
    ke (x.2.1, x.2.2.1, ())
noncomputable def p38_l2_go : Go' ((List Int × List Int × Unit)) := fun y K => K (.exit 0) { tmps := [.one .any, .one (.sc (.ptr 0 0 none)), .one (.sc (.ptr 1 0 none)), .one .any, .one .any, .one .any, .one .any, .one .any, .one .any, .one .any, .one .any, .one .any, .one .any, .one .any], mem := [.live { segs := [.xs (.int .u16) 256 y.1], own := true }, .live { segs := [.xs (.int .u16) 256 y.2.1], own := true }] }
noncomputable def p38_l2_L (N : Nat) : LT := upd (LT.nil) 2 (loopE p38_l2_S N (p38_l2_F N) p38_l2_go)
theorem p38_l2_ok (N : Nat) : OkAll p38_E p38_H N (p38_l2_L N) (subs p38_c) :=
  addLoop (c := theLoop 2 p38_c) (OkAll.nil) (by kernel_rfl) (fun x => by kernel_rfl) (fun β x kn ke => by kernel_rfl)
abbrev p38_ks : List Kd := [.xs (.int .u16) 256]
abbrev p38_rs : List Kd := [.xs (.int .u16) 256]
noncomputable def p38 (N : Nat) (x : List Int × Unit) : Option (List Int) :=
  iter (p38_l2_F N) N ((0:Int), x.1, (List.replicate 256 0), ()) fun y1 => (
  some y1.1)
theorem p38_eq (N : Nat) (x : Ds [.xs (.int .u16) 256]) : funL p38_E p38_H (p38_l2_L N) N Go.Proofs.Try.f38 p38_c [.xs (.int .u16) 256] [.xs (.int .u16) 256] x = p38 N x := by kernel_rfl
theorem p38_Eok : p38_E.Ok Go.Proofs.Try.prog := AE.of_ok (all_cons ty22_ok (all_cons ty24_ok all_nil)) all_nil
theorem p38_ok {g : Ds [.xs (.int .u16) 256] → Option (Rs [.xs (.int .u16) 256])} (hg : ∀ x r, g x = some r → ∃ N, p38 N x = some r) : SigOk Go.Proofs.Try.prog 38 ⟨[.xs (.int .u16) 256], [.xs (.int .u16) 256], g⟩ :=
  fun_of (E := p38_E) (H := p38_H) (L := fun N => p38_l2_L N) (c := p38_c) (ks := p38_ks) (rs := p38_rs) (F := p38) (p38_Eok) mix Go.Proofs.Try.func38 (by kernel_rfl) (fun N => p38_l2_ok N) p38_eq hg

/-! livery/liveryref13.width -/
noncomputable def p45_E : AE := AE.of [] []
noncomputable def p45_H : Hints := [(3, [3, 4, 5]), (2000000, [3]), (2000001, [3, 4, 5]), (3000000, [2])]
noncomputable def p45_c : Code := (Go.Proofs.Try.f45).body.getD .skip
noncomputable def p45_l3_S : Shape where
  h := { tmps := [.any, .any, .any, .sc (.int .i64), .sc (.int .i64), .sc (.int .i64), .any, .any, .any, .any, .any], mem := [] }
  ks := [.int, .int, .int]
  st := fun x => { tmps := [.one .any, .one .any, .one .any, .one (.sc (.int .i64 x.1)), .one (.sc (.int .i64 x.2.1)), .one (.sc (.int .i64 x.2.2.1)), .one .any, .one .any, .one .any, .one .any, .one .any], mem := [] }
noncomputable def p45_l3_F (N : Nat) (β : Type) (x : (Int × Int × Int × Unit)) (kn : (Int × Int × Int × Unit) → Option β) (ke : ((Int × Unit)) → Option β) : Option β :=
  if (x.2.2.1 < x.2.1) then
    kn ((IntKind.i64.wrap (x.1 * (2:Int))), x.2.1, (IntKind.i64.wrap (x.2.2.1 + (1:Int))), ())
  else
    ke (x.1, ())
noncomputable def p45_l3_go : Go' ((Int × Unit)) := fun y K => K (.exit 0) { tmps := [.one .any, .one .any, .one .any, .one (.sc (.int .i64 y.1)), .one .any, .one .any, .one .any, .one .any, .one .any, .one .any, .one .any], mem := [] }
noncomputable def p45_l3_L (N : Nat) : LT := upd (LT.nil) 3 (loopE p45_l3_S N (p45_l3_F N) p45_l3_go)
theorem p45_l3_ok (N : Nat) : OkAll p45_E p45_H N (p45_l3_L N) (subs p45_c) :=
  addLoop (c := theLoop 3 p45_c) (OkAll.nil) (by kernel_rfl) (fun x => by kernel_rfl) (fun β x kn ke => by kernel_rfl)
abbrev p45_ks : List Kd := [.int .i64]
abbrev p45_rs : List Kd := [.int .i64]
noncomputable def p45 (N : Nat) (x : Int × Unit) : Option (Int) :=
  iter (p45_l3_F N) N ((1:Int), x.1, (0:Int), ()) fun y1 => (
  some y1.1)
theorem p45_eq (N : Nat) (x : Ds [.int .i64]) : funL p45_E p45_H (p45_l3_L N) N Go.Proofs.Try.f45 p45_c [.int .i64] [.int .i64] x = p45 N x := by kernel_rfl
theorem p45_Eok : p45_E.Ok Go.Proofs.Try.prog := AE.of_ok all_nil all_nil
theorem p45_ok {g : Ds [.int .i64] → Option (Rs [.int .i64])} (hg : ∀ x r, g x = some r → ∃ N, p45 N x = some r) : SigOk Go.Proofs.Try.prog 45 ⟨[.int .i64], [.int .i64], g⟩ :=
  fun_of (E := p45_E) (H := p45_H) (L := fun N => p45_l3_L N) (c := p45_c) (ks := p45_ks) (rs := p45_rs) (F := p45) (p45_Eok) mix Go.Proofs.Try.func45 (by kernel_rfl) (fun N => p45_l3_ok N) p45_eq hg

/-! livery/liveryref13.Near -/
noncomputable def p19_E : AE := AE.of [] []
noncomputable def p19_H : Hints := [(3000000, [6])]
noncomputable def p19_c : Code := (Go.Proofs.Try.f19).body.getD .skip
abbrev p19_ks : List Kd := [.int .i64, .int .i64, .int .i64]
abbrev p19_rs : List Kd := [.int .i64]
noncomputable def p19 (N : Nat) (x : Int × Int × Int × Unit) : Option (Int) :=
  if (IntKind.i64.wrap ((2:Int) * x.2.2.1)) = 0 then none else (
  some (IntKind.i64.wrap (Int.tdiv (IntKind.i64.wrap ((IntKind.i64.wrap ((IntKind.i64.wrap ((2:Int) * x.1)) * x.2.1)) + x.2.2.1)) (IntKind.i64.wrap ((2:Int) * x.2.2.1)))))
theorem p19_eq (N : Nat) (x : Ds [.int .i64, .int .i64, .int .i64]) : funL p19_E p19_H (LT.nil) N Go.Proofs.Try.f19 p19_c [.int .i64, .int .i64, .int .i64] [.int .i64] x = p19 N x := by kernel_rfl
theorem p19_Eok : p19_E.Ok Go.Proofs.Try.prog := AE.of_ok all_nil all_nil
theorem p19_ok {g : Ds [.int .i64, .int .i64, .int .i64] → Option (Rs [.int .i64])} (hg : ∀ x r, g x = some r → ∃ N, p19 N x = some r) : SigOk Go.Proofs.Try.prog 19 ⟨[.int .i64, .int .i64, .int .i64], [.int .i64], g⟩ :=
  fun_of (E := p19_E) (H := p19_H) (L := fun N => LT.nil) (c := p19_c) (ks := p19_ks) (rs := p19_rs) (F := p19) (p19_Eok) mix Go.Proofs.Try.func19 (by kernel_rfl) (fun N => OkAll.nil) p19_eq hg

/-! livery/ring.times -/
noncomputable def p47_E : AE := AE.of [(22, ty22), (46, ty46)] []
noncomputable def p47_H : Hints := [(3000000, [4])]
noncomputable def p47_c : Code := (Go.Proofs.Try.f47).body.getD .skip
abbrev p47_ks : List Kd := [.int .u16, .int .u16]
abbrev p47_rs : List Kd := [.int .u16]
noncomputable def p47 (N : Nat) (x : Int × Int × Unit) : Option (Int) :=
  some (IntKind.u16.wrap (Int.tmod (IntKind.u32.wrap ((IntKind.u32.wrap x.1) * (IntKind.u32.wrap x.2.1))) (3329:Int)))
theorem p47_eq (N : Nat) (x : Ds [.int .u16, .int .u16]) : funL p47_E p47_H (LT.nil) N Go.Proofs.Try.f47 p47_c [.int .u16, .int .u16] [.int .u16] x = p47 N x := by kernel_rfl
theorem p47_Eok : p47_E.Ok Go.Proofs.Try.prog := AE.of_ok (all_cons ty22_ok (all_cons ty46_ok all_nil)) all_nil
theorem p47_ok {g : Ds [.int .u16, .int .u16] → Option (Rs [.int .u16])} (hg : ∀ x r, g x = some r → ∃ N, p47 N x = some r) : SigOk Go.Proofs.Try.prog 47 ⟨[.int .u16, .int .u16], [.int .u16], g⟩ :=
  fun_of (E := p47_E) (H := p47_H) (L := fun N => LT.nil) (c := p47_c) (ks := p47_ks) (rs := p47_rs) (F := p47) (p47_Eok) mix Go.Proofs.Try.func47 (by kernel_rfl) (fun N => OkAll.nil) p47_eq hg

/-! livery/ring.Compress -/
noncomputable def p14_E : AE := AE.of [(22, ty22), (24, ty24), (46, ty46)] [(37, ⟨[.xs (.int .u16) 256], [.xs (.int .u16) 256], g37⟩)]
noncomputable def p14_H : Hints := [(5, [0, 3, 4, 17, 18]), (2000000, [3, 4]), (2000001, [0, 3, 4, 17, 18]), (3000000, [4, 5])]
noncomputable def p14_c : Code := (Go.Proofs.Try.f14).body.getD .skip
noncomputable def p14_l5_S : Shape where
  h := { tmps := [.sc (.int .i64), .any, .any, .sc (.ptr 0 0 false), .sc (.ptr 1 0 false), .any, .any, .any, .any, .any, .any, .any, .any, .any, .any, .any, .any, .agg [.xs (.int .u16) (some 256)], .sc (.int .i64), .any, .any, .any, .any, .any, .any, .any, .any, .any, .any, .any, .any, .any, .any, .any, .any, .any, .any], mem := [.live [.xs (.int .u16) (some 256)] true, .live [.xs (.int .u16) (some 256)] true] }
  ks := [.int, .xs, .int, .xs, .xs]
  st := fun x => { tmps := [.one (.sc (.int .i64 x.1)), .one .any, .one .any, .one (.sc (.ptr 0 0 none)), .one (.sc (.ptr 1 0 none)), .one .any, .one .any, .one .any, .one .any, .one .any, .one .any, .one .any, .one .any, .one .any, .one .any, .one .any, .one .any, .one (.agg [.xs (.int .u16) 256 x.2.1]), .one (.sc (.int .i64 x.2.2.1)), .one .any, .one .any, .one .any, .one .any, .one .any, .one .any, .one .any, .one .any, .one .any, .one .any, .one .any, .one .any, .one .any, .one .any, .one .any, .one .any, .one .any, .one .any], mem := [.live { segs := [.xs (.int .u16) 256 x.2.2.2.1], own := true }, .live { segs := [.xs (.int .u16) 256 x.2.2.2.2.1], own := true }] }
noncomputable def p14_l5_F (N : Nat) (β : Type) (x : (Int × List Int × Int × List Int × List Int × Unit)) (kn : (Int × List Int × Int × List Int × List Int × Unit) → Option β) (ke : ((List Int × List Int × Unit)) → Option β) : Option β :=
  if (x.2.2.1 < (256:Int)) then
    if 0 ≤ x.2.2.1 then (
    if x.2.2.1 < 256 then (
    if (x.2.2.1.toNat) < 256 then (
    if (IntKind.i64.wrap (x.1 + (1:Int))) < 0 then none else (
    if x.1 < 0 then none else (
    if (ishl IntKind.u32 (1:Int) x.1) = 0 then none else (
    if 0 ≤ x.2.2.1 then (
    if x.2.2.1 < 256 then (
    if (x.2.2.1.toNat) < 256 then (
    kn (x.1, x.2.1, (IntKind.i64.wrap (x.2.2.1 + (1:Int))), (List.set x.2.2.2.1 (x.2.2.1.toNat) (IntKind.u16.wrap (Int.tmod (IntKind.u32.wrap (Int.tdiv (IntKind.u32.wrap ((ishl IntKind.u32 (IntKind.u32.wrap (List.getD x.2.1 (x.2.2.1.toNat) 0)) (IntKind.i64.wrap (x.1 + (1:Int)))) + (3329:Int))) (6658:Int))) (ishl IntKind.u32 (1:Int) x.1)))), x.2.2.2.2.1, ())) else none) else none) else none)))) else none) else none) else none
  else
    ke (x.2.2.2.1, x.2.2.2.2.1, ())
noncomputable def p14_l5_go : Go' ((List Int × List Int × Unit)) := fun y K => K (.exit 0) { tmps := [.one .any, .one .any, .one .any, .one (.sc (.ptr 0 0 none)), .one (.sc (.ptr 1 0 none)), .one .any, .one .any, .one .any, .one .any, .one .any, .one .any, .one .any, .one .any, .one .any, .one .any, .one .any, .one .any, .one .any, .one .any, .one .any, .one .any, .one .any, .one .any, .one .any, .one .any, .one .any, .one .any, .one .any, .one .any, .one .any, .one .any, .one .any, .one .any, .one .any, .one .any, .one .any, .one .any], mem := [.live { segs := [.xs (.int .u16) 256 y.1], own := true }, .live { segs := [.xs (.int .u16) 256 y.2.1], own := true }] }
noncomputable def p14_l5_L (N : Nat) : LT := upd (LT.nil) 5 (loopE p14_l5_S N (p14_l5_F N) p14_l5_go)
theorem p14_l5_ok (N : Nat) : OkAll p14_E p14_H N (p14_l5_L N) (subs p14_c) :=
  addLoop (c := theLoop 5 p14_c) (OkAll.nil) (by kernel_rfl) (fun x => by kernel_rfl) (fun β x kn ke => by kernel_rfl)
abbrev p14_ks : List Kd := [.int .i64, .xs (.int .u16) 256]
abbrev p14_rs : List Kd := [.xs (.int .u16) 256, .int .i64]
noncomputable def p14 (N : Nat) (x : Int × List Int × Unit) : Option (List Int × Int) :=
  if (x.1 < (1:Int)) then
    some ((List.replicate 256 0), (1:Int))
  else
    if (x.1 > (11:Int)) then
      some ((List.replicate 256 0), (1:Int))
    else
      (g37 (x.2.1, ())).bind fun r1 => (
      iter (p14_l5_F N) N (x.1, r1, (0:Int), r1, (List.replicate 256 0), ()) fun y2 => (
      some (y2.1, (0:Int))))
theorem p14_eq (N : Nat) (x : Ds [.int .i64, .xs (.int .u16) 256]) : funL p14_E p14_H (p14_l5_L N) N Go.Proofs.Try.f14 p14_c [.int .i64, .xs (.int .u16) 256] [.xs (.int .u16) 256, .int .i64] x = p14 N x := by kernel_rfl
theorem p14_Eok (he37 : SigOk Go.Proofs.Try.prog 37 ⟨[.xs (.int .u16) 256], [.xs (.int .u16) 256], g37⟩) : p14_E.Ok Go.Proofs.Try.prog := AE.of_ok (all_cons ty22_ok (all_cons ty24_ok (all_cons ty46_ok all_nil))) (all_cons ⟨he37, enters37⟩ all_nil)
theorem p14_ok (he37 : SigOk Go.Proofs.Try.prog 37 ⟨[.xs (.int .u16) 256], [.xs (.int .u16) 256], g37⟩) {g : Ds [.int .i64, .xs (.int .u16) 256] → Option (Rs [.xs (.int .u16) 256, .int .i64])} (hg : ∀ x r, g x = some r → ∃ N, p14 N x = some r) : SigOk Go.Proofs.Try.prog 14 ⟨[.int .i64, .xs (.int .u16) 256], [.xs (.int .u16) 256, .int .i64], g⟩ :=
  fun_of (E := p14_E) (H := p14_H) (L := fun N => p14_l5_L N) (c := p14_c) (ks := p14_ks) (rs := p14_rs) (F := p14) (p14_Eok he37) mix Go.Proofs.Try.func14 (by kernel_rfl) (fun N => p14_l5_ok N) p14_eq hg

/-! livery/liveryref13.Compress -/
noncomputable def p15_E : AE := AE.of [(3, ty3), (22, ty22), (24, ty24)] [(45, ⟨[.int .i64], [.int .i64], g45⟩), (19, ⟨[.int .i64, .int .i64, .int .i64], [.int .i64], g19⟩)]
noncomputable def p15_H : Hints := [(4, [0, 3, 4, 14]), (2000000, [3, 4]), (2000001, [0, 3, 4, 14]), (3000000, [4, 5])]
noncomputable def p15_c : Code := (Go.Proofs.Try.f15).body.getD .skip
noncomputable def p15_l4_S : Shape where
  h := { tmps := [.sc (.int .i64), .any, .any, .sc (.ptr 0 0 false), .sc (.ptr 1 0 false), .any, .any, .any, .any, .any, .any, .any, .any, .any, .sc (.int .i64), .any, .any, .any, .any, .any, .any, .any, .any, .any, .any, .any, .any, .any, .any, .any, .any, .any, .any], mem := [.live [.xs (.int .u16) (some 256)] true, .live [.xs (.int .u16) (some 256)] true] }
  ks := [.int, .int, .xs, .xs]
  st := fun x => { tmps := [.one (.sc (.int .i64 x.1)), .one .any, .one .any, .one (.sc (.ptr 0 0 none)), .one (.sc (.ptr 1 0 none)), .one .any, .one .any, .one .any, .one .any, .one .any, .one .any, .one .any, .one .any, .one .any, .one (.sc (.int .i64 x.2.1)), .one .any, .one .any, .one .any, .one .any, .one .any, .one .any, .one .any, .one .any, .one .any, .one .any, .one .any, .one .any, .one .any, .one .any, .one .any, .one .any, .one .any, .one .any], mem := [.live { segs := [.xs (.int .u16) 256 x.2.2.1], own := true }, .live { segs := [.xs (.int .u16) 256 x.2.2.2.1], own := true }] }
noncomputable def p15_l4_F (N : Nat) (β : Type) (x : (Int × Int × List Int × List Int × Unit)) (kn : (Int × Int × List Int × List Int × Unit) → Option β) (ke : ((List Int × List Int × Unit)) → Option β) : Option β :=
  if (x.2.1 < (256:Int)) then
    if 0 ≤ x.2.1 then (
    if x.2.1 < 256 then (
    if (x.2.1.toNat) < 256 then (
    (g45 (x.1, ())).bind fun r1 => (
    (g19 ((IntKind.i64.wrap (Int.tmod (List.getD x.2.2.1 (x.2.1.toNat) 0) (3329:Int))), r1, (3329:Int), ())).bind fun r2 => (
    (g45 (x.1, ())).bind fun r3 => (
    if r3 = 0 then none else (
    if 0 ≤ x.2.1 then (
    if x.2.1 < 256 then (
    if (x.2.1.toNat) < 256 then (
    kn (x.1, (IntKind.i64.wrap (x.2.1 + (1:Int))), (List.set x.2.2.1 (x.2.1.toNat) (IntKind.u16.wrap (Int.tmod r2 r3))), x.2.2.2.1, ())) else none) else none) else none))))) else none) else none) else none
  else
    ke (x.2.2.1, x.2.2.2.1, ())
noncomputable def p15_l4_go : Go' ((List Int × List Int × Unit)) := fun y K => K (.exit 0) { tmps := [.one .any, .one .any, .one .any, .one (.sc (.ptr 0 0 none)), .one (.sc (.ptr 1 0 none)), .one .any, .one .any, .one .any, .one .any, .one .any, .one .any, .one .any, .one .any, .one .any, .one .any, .one .any, .one .any, .one .any, .one .any, .one .any, .one .any, .one .any, .one .any, .one .any, .one .any, .one .any, .one .any, .one .any, .one .any, .one .any, .one .any, .one .any, .one .any], mem := [.live { segs := [.xs (.int .u16) 256 y.1], own := true }, .live { segs := [.xs (.int .u16) 256 y.2.1], own := true }] }
noncomputable def p15_l4_L (N : Nat) : LT := upd (LT.nil) 4 (loopE p15_l4_S N (p15_l4_F N) p15_l4_go)
theorem p15_l4_ok (N : Nat) : OkAll p15_E p15_H N (p15_l4_L N) (subs p15_c) :=
  addLoop (c := theLoop 4 p15_c) (OkAll.nil) (by kernel_rfl) (fun x => by kernel_rfl) (fun β x kn ke => by kernel_rfl)
abbrev p15_ks : List Kd := [.int .i64, .xs (.int .u16) 256]
abbrev p15_rs : List Kd := [.xs (.int .u16) 256, .int .i64]
noncomputable def p15 (N : Nat) (x : Int × List Int × Unit) : Option (List Int × Int) :=
  if (x.1 < (1:Int)) then
    some ((List.replicate 256 0), (1:Int))
  else
    if (x.1 > (11:Int)) then
      some ((List.replicate 256 0), (1:Int))
    else
      iter (p15_l4_F N) N (x.1, (0:Int), x.2.1, (List.replicate 256 0), ()) fun y4 => (
      some (y4.1, (0:Int)))
theorem p15_eq (N : Nat) (x : Ds [.int .i64, .xs (.int .u16) 256]) : funL p15_E p15_H (p15_l4_L N) N Go.Proofs.Try.f15 p15_c [.int .i64, .xs (.int .u16) 256] [.xs (.int .u16) 256, .int .i64] x = p15 N x := by kernel_rfl
theorem p15_Eok (he45 : SigOk Go.Proofs.Try.prog 45 ⟨[.int .i64], [.int .i64], g45⟩) (he19 : SigOk Go.Proofs.Try.prog 19 ⟨[.int .i64, .int .i64, .int .i64], [.int .i64], g19⟩) : p15_E.Ok Go.Proofs.Try.prog := AE.of_ok (all_cons ty3_ok (all_cons ty22_ok (all_cons ty24_ok all_nil))) (all_cons ⟨he45, enters45⟩ (all_cons ⟨he19, enters19⟩ all_nil))
theorem p15_ok (he45 : SigOk Go.Proofs.Try.prog 45 ⟨[.int .i64], [.int .i64], g45⟩) (he19 : SigOk Go.Proofs.Try.prog 19 ⟨[.int .i64, .int .i64, .int .i64], [.int .i64], g19⟩) {g : Ds [.int .i64, .xs (.int .u16) 256] → Option (Rs [.xs (.int .u16) 256, .int .i64])} (hg : ∀ x r, g x = some r → ∃ N, p15 N x = some r) : SigOk Go.Proofs.Try.prog 15 ⟨[.int .i64, .xs (.int .u16) 256], [.xs (.int .u16) 256, .int .i64], g⟩ :=
  fun_of (E := p15_E) (H := p15_H) (L := fun N => p15_l4_L N) (c := p15_c) (ks := p15_ks) (rs := p15_rs) (F := p15) (p15_Eok he45 he19) mix Go.Proofs.Try.func15 (by kernel_rfl) (fun N => p15_l4_ok N) p15_eq hg

/-! livery/ring.Decompress -/
noncomputable def p16_E : AE := AE.of [(22, ty22), (24, ty24), (46, ty46)] []
noncomputable def p16_H : Hints := [(4, [0, 3, 4, 16, 17]), (2000000, [3, 4]), (2000001, [0, 3, 4, 16, 17]), (3000000, [4, 5])]
noncomputable def p16_c : Code := (Go.Proofs.Try.f16).body.getD .skip
noncomputable def p16_l4_S : Shape where
  h := { tmps := [.sc (.int .i64), .any, .any, .sc (.ptr 0 0 false), .sc (.ptr 1 0 false), .any, .any, .any, .any, .any, .any, .any, .any, .any, .any, .any, .agg [.xs (.int .u16) (some 256)], .sc (.int .i64), .any, .any, .any, .any, .any, .any, .any, .any, .any, .any, .any, .any, .any, .any, .any, .any, .any, .any, .any, .any, .any], mem := [.live [.xs (.int .u16) (some 256)] true, .live [.xs (.int .u16) (some 256)] true] }
  ks := [.int, .xs, .int, .xs, .xs]
  st := fun x => { tmps := [.one (.sc (.int .i64 x.1)), .one .any, .one .any, .one (.sc (.ptr 0 0 none)), .one (.sc (.ptr 1 0 none)), .one .any, .one .any, .one .any, .one .any, .one .any, .one .any, .one .any, .one .any, .one .any, .one .any, .one .any, .one (.agg [.xs (.int .u16) 256 x.2.1]), .one (.sc (.int .i64 x.2.2.1)), .one .any, .one .any, .one .any, .one .any, .one .any, .one .any, .one .any, .one .any, .one .any, .one .any, .one .any, .one .any, .one .any, .one .any, .one .any, .one .any, .one .any, .one .any, .one .any, .one .any, .one .any], mem := [.live { segs := [.xs (.int .u16) 256 x.2.2.2.1], own := true }, .live { segs := [.xs (.int .u16) 256 x.2.2.2.2.1], own := true }] }
noncomputable def p16_l4_F (N : Nat) (β : Type) (x : (Int × List Int × Int × List Int × List Int × Unit)) (kn : (Int × List Int × Int × List Int × List Int × Unit) → Option β) (ke : ((List Int × List Int × Unit)) → Option β) : Option β :=
  if (x.2.2.1 < (256:Int)) then
    if 0 ≤ x.2.2.1 then (
    if x.2.2.1 < 256 then (
    if (x.2.2.1.toNat) < 256 then (
    if x.1 < 0 then none else (
    if (ishl IntKind.u32 (1:Int) x.1) = 0 then none else (
    if x.1 < 0 then none else (
    if (IntKind.i64.wrap (x.1 + (1:Int))) < 0 then none else (
    if 0 ≤ x.2.2.1 then (
    if x.2.2.1 < 256 then (
    if (x.2.2.1.toNat) < 256 then (
    kn (x.1, x.2.1, (IntKind.i64.wrap (x.2.2.1 + (1:Int))), (List.set x.2.2.2.1 (x.2.2.1.toNat) (IntKind.u16.wrap (ishr IntKind.u32 (IntKind.u32.wrap ((IntKind.u32.wrap ((6658:Int) * (Int.tmod (IntKind.u32.wrap (List.getD x.2.1 (x.2.2.1.toNat) 0)) (ishl IntKind.u32 (1:Int) x.1)))) + (ishl IntKind.u32 (1:Int) x.1))) (IntKind.i64.wrap (x.1 + (1:Int)))))), x.2.2.2.2.1, ())) else none) else none) else none))))) else none) else none) else none
  else
    ke (x.2.2.2.1, x.2.2.2.2.1, ())
noncomputable def p16_l4_go : Go' ((List Int × List Int × Unit)) := fun y K => K (.exit 0) { tmps := [.one .any, .one .any, .one .any, .one (.sc (.ptr 0 0 none)), .one (.sc (.ptr 1 0 none)), .one .any, .one .any, .one .any, .one .any, .one .any, .one .any, .one .any, .one .any, .one .any, .one .any, .one .any, .one .any, .one .any, .one .any, .one .any, .one .any, .one .any, .one .any, .one .any, .one .any, .one .any, .one .any, .one .any, .one .any, .one .any, .one .any, .one .any, .one .any, .one .any, .one .any, .one .any, .one .any, .one .any, .one .any], mem := [.live { segs := [.xs (.int .u16) 256 y.1], own := true }, .live { segs := [.xs (.int .u16) 256 y.2.1], own := true }] }
noncomputable def p16_l4_L (N : Nat) : LT := upd (LT.nil) 4 (loopE p16_l4_S N (p16_l4_F N) p16_l4_go)
theorem p16_l4_ok (N : Nat) : OkAll p16_E p16_H N (p16_l4_L N) (subs p16_c) :=
  addLoop (c := theLoop 4 p16_c) (OkAll.nil) (by kernel_rfl) (fun x => by kernel_rfl) (fun β x kn ke => by kernel_rfl)
abbrev p16_ks : List Kd := [.int .i64, .xs (.int .u16) 256]
abbrev p16_rs : List Kd := [.xs (.int .u16) 256, .int .i64]
noncomputable def p16 (N : Nat) (x : Int × List Int × Unit) : Option (List Int × Int) :=
  if (x.1 < (1:Int)) then
    some ((List.replicate 256 0), (1:Int))
  else
    if (x.1 > (11:Int)) then
      some ((List.replicate 256 0), (1:Int))
    else
      iter (p16_l4_F N) N (x.1, x.2.1, (0:Int), x.2.1, (List.replicate 256 0), ()) fun y1 => (
      some (y1.1, (0:Int)))
theorem p16_eq (N : Nat) (x : Ds [.int .i64, .xs (.int .u16) 256]) : funL p16_E p16_H (p16_l4_L N) N Go.Proofs.Try.f16 p16_c [.int .i64, .xs (.int .u16) 256] [.xs (.int .u16) 256, .int .i64] x = p16 N x := by kernel_rfl
theorem p16_Eok : p16_E.Ok Go.Proofs.Try.prog := AE.of_ok (all_cons ty22_ok (all_cons ty24_ok (all_cons ty46_ok all_nil))) all_nil
theorem p16_ok {g : Ds [.int .i64, .xs (.int .u16) 256] → Option (Rs [.xs (.int .u16) 256, .int .i64])} (hg : ∀ x r, g x = some r → ∃ N, p16 N x = some r) : SigOk Go.Proofs.Try.prog 16 ⟨[.int .i64, .xs (.int .u16) 256], [.xs (.int .u16) 256, .int .i64], g⟩ :=
  fun_of (E := p16_E) (H := p16_H) (L := fun N => p16_l4_L N) (c := p16_c) (ks := p16_ks) (rs := p16_rs) (F := p16) (p16_Eok) mix Go.Proofs.Try.func16 (by kernel_rfl) (fun N => p16_l4_ok N) p16_eq hg

/-! livery/liveryref13.Decompress -/
noncomputable def p17_E : AE := AE.of [(3, ty3), (22, ty22), (24, ty24)] [(45, ⟨[.int .i64], [.int .i64], g45⟩), (19, ⟨[.int .i64, .int .i64, .int .i64], [.int .i64], g19⟩)]
noncomputable def p17_H : Hints := [(4, [0, 3, 4, 14]), (2000000, [3, 4]), (2000001, [0, 3, 4, 14]), (3000000, [4, 5])]
noncomputable def p17_c : Code := (Go.Proofs.Try.f17).body.getD .skip
noncomputable def p17_l4_S : Shape where
  h := { tmps := [.sc (.int .i64), .any, .any, .sc (.ptr 0 0 false), .sc (.ptr 1 0 false), .any, .any, .any, .any, .any, .any, .any, .any, .any, .sc (.int .i64), .any, .any, .any, .any, .any, .any, .any, .any, .any, .any, .any, .any, .any, .any, .any, .any, .any], mem := [.live [.xs (.int .u16) (some 256)] true, .live [.xs (.int .u16) (some 256)] true] }
  ks := [.int, .int, .xs, .xs]
  st := fun x => { tmps := [.one (.sc (.int .i64 x.1)), .one .any, .one .any, .one (.sc (.ptr 0 0 none)), .one (.sc (.ptr 1 0 none)), .one .any, .one .any, .one .any, .one .any, .one .any, .one .any, .one .any, .one .any, .one .any, .one (.sc (.int .i64 x.2.1)), .one .any, .one .any, .one .any, .one .any, .one .any, .one .any, .one .any, .one .any, .one .any, .one .any, .one .any, .one .any, .one .any, .one .any, .one .any, .one .any, .one .any], mem := [.live { segs := [.xs (.int .u16) 256 x.2.2.1], own := true }, .live { segs := [.xs (.int .u16) 256 x.2.2.2.1], own := true }] }
noncomputable def p17_l4_F (N : Nat) (β : Type) (x : (Int × Int × List Int × List Int × Unit)) (kn : (Int × Int × List Int × List Int × Unit) → Option β) (ke : ((List Int × List Int × Unit)) → Option β) : Option β :=
  if (x.2.1 < (256:Int)) then
    if 0 ≤ x.2.1 then (
    if x.2.1 < 256 then (
    if (x.2.1.toNat) < 256 then (
    (g45 (x.1, ())).bind fun r1 => (
    if r1 = 0 then none else (
    (g45 (x.1, ())).bind fun r2 => (
    (g19 ((Int.tmod (IntKind.i64.wrap (List.getD x.2.2.1 (x.2.1.toNat) 0)) r1), (3329:Int), r2, ())).bind fun r3 => (
    if 0 ≤ x.2.1 then (
    if x.2.1 < 256 then (
    if (x.2.1.toNat) < 256 then (
    kn (x.1, (IntKind.i64.wrap (x.2.1 + (1:Int))), (List.set x.2.2.1 (x.2.1.toNat) (IntKind.u16.wrap r3)), x.2.2.2.1, ())) else none) else none) else none))))) else none) else none) else none
  else
    ke (x.2.2.1, x.2.2.2.1, ())
noncomputable def p17_l4_go : Go' ((List Int × List Int × Unit)) := fun y K => K (.exit 0) { tmps := [.one .any, .one .any, .one .any, .one (.sc (.ptr 0 0 none)), .one (.sc (.ptr 1 0 none)), .one .any, .one .any, .one .any, .one .any, .one .any, .one .any, .one .any, .one .any, .one .any, .one .any, .one .any, .one .any, .one .any, .one .any, .one .any, .one .any, .one .any, .one .any, .one .any, .one .any, .one .any, .one .any, .one .any, .one .any, .one .any, .one .any, .one .any], mem := [.live { segs := [.xs (.int .u16) 256 y.1], own := true }, .live { segs := [.xs (.int .u16) 256 y.2.1], own := true }] }
noncomputable def p17_l4_L (N : Nat) : LT := upd (LT.nil) 4 (loopE p17_l4_S N (p17_l4_F N) p17_l4_go)
theorem p17_l4_ok (N : Nat) : OkAll p17_E p17_H N (p17_l4_L N) (subs p17_c) :=
  addLoop (c := theLoop 4 p17_c) (OkAll.nil) (by kernel_rfl) (fun x => by kernel_rfl) (fun β x kn ke => by kernel_rfl)
abbrev p17_ks : List Kd := [.int .i64, .xs (.int .u16) 256]
abbrev p17_rs : List Kd := [.xs (.int .u16) 256, .int .i64]
noncomputable def p17 (N : Nat) (x : Int × List Int × Unit) : Option (List Int × Int) :=
  if (x.1 < (1:Int)) then
    some ((List.replicate 256 0), (1:Int))
  else
    if (x.1 > (11:Int)) then
      some ((List.replicate 256 0), (1:Int))
    else
      iter (p17_l4_F N) N (x.1, (0:Int), x.2.1, (List.replicate 256 0), ()) fun y4 => (
      some (y4.1, (0:Int)))
theorem p17_eq (N : Nat) (x : Ds [.int .i64, .xs (.int .u16) 256]) : funL p17_E p17_H (p17_l4_L N) N Go.Proofs.Try.f17 p17_c [.int .i64, .xs (.int .u16) 256] [.xs (.int .u16) 256, .int .i64] x = p17 N x := by kernel_rfl
theorem p17_Eok (he45 : SigOk Go.Proofs.Try.prog 45 ⟨[.int .i64], [.int .i64], g45⟩) (he19 : SigOk Go.Proofs.Try.prog 19 ⟨[.int .i64, .int .i64, .int .i64], [.int .i64], g19⟩) : p17_E.Ok Go.Proofs.Try.prog := AE.of_ok (all_cons ty3_ok (all_cons ty22_ok (all_cons ty24_ok all_nil))) (all_cons ⟨he45, enters45⟩ (all_cons ⟨he19, enters19⟩ all_nil))
theorem p17_ok (he45 : SigOk Go.Proofs.Try.prog 45 ⟨[.int .i64], [.int .i64], g45⟩) (he19 : SigOk Go.Proofs.Try.prog 19 ⟨[.int .i64, .int .i64, .int .i64], [.int .i64], g19⟩) {g : Ds [.int .i64, .xs (.int .u16) 256] → Option (Rs [.xs (.int .u16) 256, .int .i64])} (hg : ∀ x r, g x = some r → ∃ N, p17 N x = some r) : SigOk Go.Proofs.Try.prog 17 ⟨[.int .i64, .xs (.int .u16) 256], [.xs (.int .u16) 256, .int .i64], g⟩ :=
  fun_of (E := p17_E) (H := p17_H) (L := fun N => p17_l4_L N) (c := p17_c) (ks := p17_ks) (rs := p17_rs) (F := p17) (p17_Eok he45 he19) mix Go.Proofs.Try.func17 (by kernel_rfl) (fun N => p17_l4_ok N) p17_eq hg

/-! math/bits.Reverse8 -/
noncomputable def p58_s0 : ByteArray := ⟨#[0, 128, 64, 192, 32, 160, 96, 224, 16, 144, 80, 208, 48, 176, 112, 240, 8, 136, 72, 200, 40, 168, 104, 232, 24, 152, 88, 216, 56, 184, 120, 248, 4, 132, 68, 196, 36, 164, 100, 228, 20, 148, 84, 212, 52, 180, 116, 244, 12, 140, 76, 204, 44, 172, 108, 236, 28, 156, 92, 220, 60, 188, 124, 252, 2, 130, 66, 194, 34, 162, 98, 226, 18, 146, 82, 210, 50, 178, 114, 242, 10, 138, 74, 202, 42, 170, 106, 234, 26, 154, 90, 218, 58, 186, 122, 250, 6, 134, 70, 198, 38, 166, 102, 230, 22, 150, 86, 214, 54, 182, 118, 246, 14, 142, 78, 206, 46, 174, 110, 238, 30, 158, 94, 222, 62, 190, 126, 254, 1, 129, 65, 193, 33, 161, 97, 225, 17, 145, 81, 209, 49, 177, 113, 241, 9, 137, 73, 201, 41, 169, 105, 233, 25, 153, 89, 217, 57, 185, 121, 249, 5, 133, 69, 197, 37, 165, 101, 229, 21, 149, 85, 213, 53, 181, 117, 245, 13, 141, 77, 205, 45, 173, 109, 237, 29, 157, 93, 221, 61, 189, 125, 253, 3, 131, 67, 195, 35, 163, 99, 227, 19, 147, 83, 211, 51, 179, 115, 243, 11, 139, 75, 203, 43, 171, 107, 235, 27, 155, 91, 219, 59, 187, 123, 251, 7, 135, 71, 199, 39, 167, 103, 231, 23, 151, 87, 215, 55, 183, 119, 247, 15, 143, 79, 207, 47, 175, 111, 239, 31, 159, 95, 223, 63, 191, 127, 255]⟩
noncomputable def p58_E : AE := AE.of [(9, ty9)] []
noncomputable def p58_H : Hints := [(3000000, [2])]
noncomputable def p58_c : Code := (Go.Proofs.Try.f58).body.getD .skip
abbrev p58_ks : List Kd := [.int .u8]
abbrev p58_rs : List Kd := [.int .u8]
noncomputable def p58 (N : Nat) (x : Int × Unit) : Option (Int) :=
  if 0 ≤ x.1 then (
  if x.1 < ((ByteArray.size p58_s0 : Nat) : Int) then (
  some (bt p58_s0 (x.1.toNat))) else none) else none
theorem p58_eq (N : Nat) (x : Ds [.int .u8]) : funL p58_E p58_H (LT.nil) N Go.Proofs.Try.f58 p58_c [.int .u8] [.int .u8] x = p58 N x := by kernel_rfl
theorem p58_Eok : p58_E.Ok Go.Proofs.Try.prog := AE.of_ok (all_cons ty9_ok all_nil) all_nil
theorem p58_ok {g : Ds [.int .u8] → Option (Rs [.int .u8])} (hg : ∀ x r, g x = some r → ∃ N, p58 N x = some r) : SigOk Go.Proofs.Try.prog 58 ⟨[.int .u8], [.int .u8], g⟩ :=
  fun_of (E := p58_E) (H := p58_H) (L := fun N => LT.nil) (c := p58_c) (ks := p58_ks) (rs := p58_rs) (F := p58) (p58_Eok) mix Go.Proofs.Try.func58 (by kernel_rfl) (fun N => OkAll.nil) p58_eq hg

/-! livery/ring.powers -/
noncomputable def p46_E : AE := AE.of [(3, ty3), (5, ty5), (22, ty22), (48, ty48)] [(47, ⟨[.int .u16, .int .u16], [.int .u16], g47⟩), (58, ⟨[.int .u8], [.int .u8], g58⟩)]
noncomputable def p46_H : Hints := [(4, [0, 1, 2, 3]), (8, [0, 1, 2, 17]), (2000000, [0, 1, 2]), (2000001, [0, 1, 2, 3]), (2000002, [0, 2]), (2000003, [0, 1, 2, 17]), (3000000, [0])]
noncomputable def p46_c : Code := (Go.Proofs.Try.f46).body.getD .skip
noncomputable def p46_l4_S : Shape where
  h := { tmps := [.sc (.ptr 0 0 false), .sc (.ptr 1 0 false), .sc (.ptr 2 0 false), .sc (.int .i64), .any, .any, .any, .any, .any, .any, .any, .any, .any, .any, .any, .any, .any, .any, .any, .any, .any, .any, .any, .any, .any, .any, .any, .any, .any, .any], mem := [.live [.xs (.int .u16) (some 128)] true, .live [.xs (.int .u16) (some 128)] true, .live [.xs (.int .u16) (some 128)] true] }
  ks := [.int, .xs, .xs, .xs]
  st := fun x => { tmps := [.one (.sc (.ptr 0 0 none)), .one (.sc (.ptr 1 0 none)), .one (.sc (.ptr 2 0 none)), .one (.sc (.int .i64 x.1)), .one .any, .one .any, .one .any, .one .any, .one .any, .one .any, .one .any, .one .any, .one .any, .one .any, .one .any, .one .any, .one .any, .one .any, .one .any, .one .any, .one .any, .one .any, .one .any, .one .any, .one .any, .one .any, .one .any, .one .any, .one .any, .one .any], mem := [.live { segs := [.xs (.int .u16) 128 x.2.1], own := true }, .live { segs := [.xs (.int .u16) 128 x.2.2.1], own := true }, .live { segs := [.xs (.int .u16) 128 x.2.2.2.1], own := true }] }
noncomputable def p46_l4_F (N : Nat) (β : Type) (x : (Int × List Int × List Int × List Int × Unit)) (kn : (Int × List Int × List Int × List Int × Unit) → Option β) (ke : ((List Int × List Int × List Int × Unit)) → Option β) : Option β :=
  if (x.1 < (128:Int)) then
    if 0 ≤ (IntKind.i64.wrap (x.1 - (1:Int))) then (
    if (IntKind.i64.wrap (x.1 - (1:Int))) < 128 then (
    if ((IntKind.i64.wrap (x.1 - (1:Int))).toNat) < 128 then (
    (g47 ((List.getD x.2.2.1 ((IntKind.i64.wrap (x.1 - (1:Int))).toNat) 0), (17:Int), ())).bind fun r1 => (
    if 0 ≤ x.1 then (
    if x.1 < 128 then (
    if (x.1.toNat) < 128 then (
    kn ((IntKind.i64.wrap (x.1 + (1:Int))), x.2.1, (List.set x.2.2.1 (x.1.toNat) r1), x.2.2.2.1, ())) else none) else none) else none)) else none) else none) else none
  else
    ke (x.2.1, x.2.2.1, x.2.2.2.1, ())
noncomputable def p46_l4_go : Go' ((List Int × List Int × List Int × Unit)) := fun y K => K (.exit 0) { tmps := [.one (.sc (.ptr 0 0 none)), .one (.sc (.ptr 1 0 none)), .one (.sc (.ptr 2 0 none)), .one .any, .one .any, .one .any, .one .any, .one .any, .one .any, .one .any, .one .any, .one .any, .one .any, .one .any, .one .any, .one .any, .one .any, .one .any, .one .any, .one .any, .one .any, .one .any, .one .any, .one .any, .one .any, .one .any, .one .any, .one .any, .one .any, .one .any], mem := [.live { segs := [.xs (.int .u16) 128 y.1], own := true }, .live { segs := [.xs (.int .u16) 128 y.2.1], own := true }, .live { segs := [.xs (.int .u16) 128 y.2.2.1], own := true }] }
noncomputable def p46_l4_L (N : Nat) : LT := upd (LT.nil) 4 (loopE p46_l4_S N (p46_l4_F N) p46_l4_go)
theorem p46_l4_ok (N : Nat) : OkAll p46_E p46_H N (p46_l4_L N) (subs p46_c) :=
  addLoop (c := theLoop 4 p46_c) (OkAll.nil) (by kernel_rfl) (fun x => by kernel_rfl) (fun β x kn ke => by kernel_rfl)
noncomputable def p46_l8_S : Shape where
  h := { tmps := [.sc (.ptr 0 0 false), .sc (.ptr 1 0 false), .sc (.ptr 2 0 false), .any, .any, .any, .any, .any, .any, .any, .any, .any, .any, .any, .any, .any, .any, .sc (.int .i64), .any, .any, .any, .any, .any, .any, .any, .any, .any, .any, .any, .any], mem := [.live [.xs (.int .u16) (some 128)] true, .live [.xs (.int .u16) (some 128)] true, .live [.xs (.int .u16) (some 128)] true] }
  ks := [.int, .xs, .xs, .xs]
  st := fun x => { tmps := [.one (.sc (.ptr 0 0 none)), .one (.sc (.ptr 1 0 none)), .one (.sc (.ptr 2 0 none)), .one .any, .one .any, .one .any, .one .any, .one .any, .one .any, .one .any, .one .any, .one .any, .one .any, .one .any, .one .any, .one .any, .one .any, .one (.sc (.int .i64 x.1)), .one .any, .one .any, .one .any, .one .any, .one .any, .one .any, .one .any, .one .any, .one .any, .one .any, .one .any, .one .any], mem := [.live { segs := [.xs (.int .u16) 128 x.2.1], own := true }, .live { segs := [.xs (.int .u16) 128 x.2.2.1], own := true }, .live { segs := [.xs (.int .u16) 128 x.2.2.2.1], own := true }] }
noncomputable def p46_l8_F (N : Nat) (β : Type) (x : (Int × List Int × List Int × List Int × Unit)) (kn : (Int × List Int × List Int × List Int × Unit) → Option β) (ke : ((List Int × List Int × Unit)) → Option β) : Option β :=
  if (x.1 < (128:Int)) then
    (g58 ((IntKind.u8.wrap x.1), ())).bind fun r3 => (
    if 0 ≤ (ishr IntKind.u8 r3 (1:Int)) then (
    if (ishr IntKind.u8 r3 (1:Int)) < 128 then (
    if ((ishr IntKind.u8 r3 (1:Int)).toNat) < 128 then (
    if 0 ≤ x.1 then (
    if x.1 < 128 then (
    if (x.1.toNat) < 128 then (
    kn ((IntKind.i64.wrap (x.1 + (1:Int))), x.2.1, x.2.2.1, (List.set x.2.2.2.1 (x.1.toNat) (List.getD x.2.2.1 ((ishr IntKind.u8 r3 (1:Int)).toNat) 0)), ())) else none) else none) else none) else none) else none) else none)
  else
    ke (x.2.1, x.2.2.2.1, ())
noncomputable def p46_l8_go : Go' ((List Int × List Int × Unit)) := fun y K => K (.exit 2) { tmps := [.one (.sc (.ptr 0 0 none)), .one .any, .one (.sc (.ptr 1 0 none)), .one .any, .one .any, .one .any, .one .any, .one .any, .one .any, .one .any, .one .any, .one .any, .one .any, .one .any, .one .any, .one .any, .one .any, .one .any, .one .any, .one .any, .one .any, .one .any, .one .any, .one .any, .one .any, .one .any, .one .any, .one .any, .one .any, .one .any], mem := [.live { segs := [.xs (.int .u16) 128 y.1], own := true }, .live { segs := [.xs (.int .u16) 128 y.2.1], own := true }] }
noncomputable def p46_l8_L (N : Nat) : LT := upd (p46_l4_L N) 8 (loopE p46_l8_S N (p46_l8_F N) p46_l8_go)
theorem p46_l8_ok (N : Nat) : OkAll p46_E p46_H N (p46_l8_L N) (subs p46_c) :=
  addLoop (c := theLoop 8 p46_c) (p46_l4_ok N) (by kernel_rfl) (fun x => by kernel_rfl) (fun β x kn ke => by kernel_rfl)
abbrev p46_ks : List Kd := []
abbrev p46_rs : List Kd := [.xs (.int .u16) 128]
noncomputable def p46 (N : Nat) (x : Unit) : Option (List Int) :=
  iter (p46_l4_F N) N ((1:Int), (List.replicate 128 0), (List.set (List.replicate 128 0) 0 (1:Int)), (List.replicate 128 0), ()) fun y2 => (
  iter (p46_l8_F N) N ((0:Int), y2.1, y2.2.1, y2.2.2.1, ()) fun y4 => (
  some y4.2.1))
theorem p46_eq (N : Nat) (x : Ds []) : funL p46_E p46_H (p46_l8_L N) N Go.Proofs.Try.f46 p46_c [] [.xs (.int .u16) 128] x = p46 N x := by kernel_rfl
theorem p46_Eok (he47 : SigOk Go.Proofs.Try.prog 47 ⟨[.int .u16, .int .u16], [.int .u16], g47⟩) (he58 : SigOk Go.Proofs.Try.prog 58 ⟨[.int .u8], [.int .u8], g58⟩) : p46_E.Ok Go.Proofs.Try.prog := AE.of_ok (all_cons ty3_ok (all_cons ty5_ok (all_cons ty22_ok (all_cons ty48_ok all_nil)))) (all_cons ⟨he47, enters47⟩ (all_cons ⟨he58, enters58⟩ all_nil))
theorem p46_ok (he47 : SigOk Go.Proofs.Try.prog 47 ⟨[.int .u16, .int .u16], [.int .u16], g47⟩) (he58 : SigOk Go.Proofs.Try.prog 58 ⟨[.int .u8], [.int .u8], g58⟩) {g : Ds [] → Option (Rs [.xs (.int .u16) 128])} (hg : ∀ x r, g x = some r → ∃ N, p46 N x = some r) : SigOk Go.Proofs.Try.prog 46 ⟨[], [.xs (.int .u16) 128], g⟩ :=
  fun_of (E := p46_E) (H := p46_H) (L := fun N => p46_l8_L N) (c := p46_c) (ks := p46_ks) (rs := p46_rs) (F := p46) (p46_Eok he47 he58) mix Go.Proofs.Try.func46 (by kernel_rfl) (fun N => p46_l8_ok N) p46_eq hg

/-! livery/ring.Ntt -/
noncomputable def p24_E : AE := AE.of [(22, ty22), (24, ty24), (48, ty48)] [(37, ⟨[.xs (.int .u16) 256], [.xs (.int .u16) 256], g37⟩), (46, ⟨[], [.xs (.int .u16) 128], g46⟩), (47, ⟨[.int .u16, .int .u16], [.int .u16], g47⟩)]
noncomputable def p24_H : Hints := [(5, [1, 2, 3, 4, 5]), (8, [1, 2, 3, 4, 5, 6]), (11, [1, 2, 3, 4, 5, 6, 7]), (2000000, [1, 2]), (2000001, [1, 2, 3, 4, 5]), (2000002, [1, 2, 3, 4, 5]), (2000003, [1, 2, 3, 4, 5, 6]), (2000004, [1, 2, 3, 4, 5, 6]), (2000005, [1, 2, 3, 4, 5, 6, 7]), (3000000, [2])]
noncomputable def p24_c : Code := (Go.Proofs.Try.f24).body.getD .skip
noncomputable def p24_l11_S : Shape where
  h := { tmps := [.any, .sc (.ptr 0 0 false), .sc (.ptr 1 0 false), .sc (.ptr 2 0 false), .sc (.int .i64), .sc (.int .i64), .sc (.int .i64), .sc (.int .i64), .any, .any, .any, .any, .any, .any, .any, .any, .any, .any, .any, .any, .any, .any, .any, .any, .any, .any, .any, .any, .any, .any, .any, .any, .any, .any, .any, .any, .any, .any, .any, .any, .any, .any, .any, .any, .any, .any, .any, .any, .any, .any, .any, .any, .any, .any, .any, .any, .any, .any, .any, .any, .any], mem := [.live [.xs (.int .u16) (some 256)] true, .live [.xs (.int .u16) (some 256)] true, .live [.xs (.int .u16) (some 128)] true] }
  ks := [.int, .int, .int, .int, .xs, .xs, .xs]
  st := fun x => { tmps := [.one .any, .one (.sc (.ptr 0 0 none)), .one (.sc (.ptr 1 0 none)), .one (.sc (.ptr 2 0 none)), .one (.sc (.int .i64 x.1)), .one (.sc (.int .i64 x.2.1)), .one (.sc (.int .i64 x.2.2.1)), .one (.sc (.int .i64 x.2.2.2.1)), .one .any, .one .any, .one .any, .one .any, .one .any, .one .any, .one .any, .one .any, .one .any, .one .any, .one .any, .one .any, .one .any, .one .any, .one .any, .one .any, .one .any, .one .any, .one .any, .one .any, .one .any, .one .any, .one .any, .one .any, .one .any, .one .any, .one .any, .one .any, .one .any, .one .any, .one .any, .one .any, .one .any, .one .any, .one .any, .one .any, .one .any, .one .any, .one .any, .one .any, .one .any, .one .any, .one .any, .one .any, .one .any, .one .any, .one .any, .one .any, .one .any, .one .any, .one .any, .one .any, .one .any], mem := [.live { segs := [.xs (.int .u16) 256 x.2.2.2.2.1], own := true }, .live { segs := [.xs (.int .u16) 256 x.2.2.2.2.2.1], own := true }, .live { segs := [.xs (.int .u16) 128 x.2.2.2.2.2.2.1], own := true }] }
noncomputable def p24_l11_F (N : Nat) (β : Type) (x : (Int × Int × Int × Int × List Int × List Int × List Int × Unit)) (kn : (Int × Int × Int × Int × List Int × List Int × List Int × Unit) → Option β) (ke : ((Int × Int × Int × List Int × List Int × List Int × Unit)) → Option β) : Option β :=
  if (x.2.2.2.1 < (IntKind.i64.wrap (x.2.2.1 + x.2.1))) then
    if 0 ≤ x.1 then (
    if x.1 < 128 then (
    if (x.1.toNat) < 128 then (
    if 0 ≤ (IntKind.i64.wrap (x.2.2.2.1 + x.2.1)) then (
    if (IntKind.i64.wrap (x.2.2.2.1 + x.2.1)) < 256 then (
    if ((IntKind.i64.wrap (x.2.2.2.1 + x.2.1)).toNat) < 256 then (
    (g47 ((List.getD x.2.2.2.2.2.2.1 (x.1.toNat) 0), (List.getD x.2.2.2.2.1 ((IntKind.i64.wrap (x.2.2.2.1 + x.2.1)).toNat) 0), ())).bind fun r3 => (
    if 0 ≤ x.2.2.2.1 then (
    if x.2.2.2.1 < 256 then (
    if (x.2.2.2.1.toNat) < 256 then (
    if 0 ≤ x.2.2.2.1 then (
    if x.2.2.2.1 < 256 then (
    if (x.2.2.2.1.toNat) < 256 then (
    if 0 ≤ x.2.2.2.1 then (
    if x.2.2.2.1 < 256 then (
    if (x.2.2.2.1.toNat) < 256 then (
    if 0 ≤ (IntKind.i64.wrap (x.2.2.2.1 + x.2.1)) then (
    if (IntKind.i64.wrap (x.2.2.2.1 + x.2.1)) < 256 then (
    if ((IntKind.i64.wrap (x.2.2.2.1 + x.2.1)).toNat) < 256 then (
    kn (x.1, x.2.1, x.2.2.1, (IntKind.i64.wrap (x.2.2.2.1 + (1:Int))), (List.set (List.set x.2.2.2.2.1 (x.2.2.2.1.toNat) (Int.tmod (IntKind.u16.wrap ((List.getD x.2.2.2.2.1 (x.2.2.2.1.toNat) 0) + r3)) (3329:Int))) ((IntKind.i64.wrap (x.2.2.2.1 + x.2.1)).toNat) (Int.tmod (IntKind.u16.wrap ((IntKind.u16.wrap ((List.getD x.2.2.2.2.1 (x.2.2.2.1.toNat) 0) + (3329:Int))) - r3)) (3329:Int))), x.2.2.2.2.2.1, x.2.2.2.2.2.2.1, ())) else none) else none) else none) else none) else none) else none) else none) else none) else none) else none) else none) else none)) else none) else none) else none) else none) else none) else none
  else
    ke (x.1, x.2.1, x.2.2.1, x.2.2.2.2.1, x.2.2.2.2.2.1, x.2.2.2.2.2.2.1, ())
noncomputable def p24_l11_go : Go' ((Int × Int × Int × List Int × List Int × List Int × Unit)) := fun y K => K (.exit 4) { tmps := [.one .any, .one (.sc (.ptr 0 0 none)), .one (.sc (.ptr 1 0 none)), .one (.sc (.ptr 2 0 none)), .one (.sc (.int .i64 y.1)), .one (.sc (.int .i64 y.2.1)), .one (.sc (.int .i64 y.2.2.1)), .one .any, .one .any, .one .any, .one .any, .one .any, .one .any, .one .any, .one .any, .one .any, .one .any, .one .any, .one .any, .one .any, .one .any, .one .any, .one .any, .one .any, .one .any, .one .any, .one .any, .one .any, .one .any, .one .any, .one .any, .one .any, .one .any, .one .any, .one .any, .one .any, .one .any, .one .any, .one .any, .one .any, .one .any, .one .any, .one .any, .one .any, .one .any, .one .any, .one .any, .one .any, .one .any, .one .any, .one .any, .one .any, .one .any, .one .any, .one .any, .one .any, .one .any, .one .any, .one .any, .one .any, .one .any], mem := [.live { segs := [.xs (.int .u16) 256 y.2.2.2.1], own := true }, .live { segs := [.xs (.int .u16) 256 y.2.2.2.2.1], own := true }, .live { segs := [.xs (.int .u16) 128 y.2.2.2.2.2.1], own := true }] }
noncomputable def p24_l11_L (N : Nat) : LT := upd (LT.nil) 11 (loopE p24_l11_S N (p24_l11_F N) p24_l11_go)
theorem p24_l11_ok (N : Nat) : OkAll p24_E p24_H N (p24_l11_L N) (subs p24_c) :=
  addLoop (c := theLoop 11 p24_c) (OkAll.nil) (by kernel_rfl) (fun x => by kernel_rfl) (fun β x kn ke => by kernel_rfl)
noncomputable def p24_l8_S : Shape where
  h := { tmps := [.any, .sc (.ptr 0 0 false), .sc (.ptr 1 0 false), .sc (.ptr 2 0 false), .sc (.int .i64), .sc (.int .i64), .sc (.int .i64), .any, .any, .any, .any, .any, .any, .any, .any, .any, .any, .any, .any, .any, .any, .any, .any, .any, .any, .any, .any, .any, .any, .any, .any, .any, .any, .any, .any, .any, .any, .any, .any, .any, .any, .any, .any, .any, .any, .any, .any, .any, .any, .any, .any, .any, .any, .any, .any, .any, .any, .any, .any, .any, .any], mem := [.live [.xs (.int .u16) (some 256)] true, .live [.xs (.int .u16) (some 256)] true, .live [.xs (.int .u16) (some 128)] true] }
  ks := [.int, .int, .int, .xs, .xs, .xs]
  st := fun x => { tmps := [.one .any, .one (.sc (.ptr 0 0 none)), .one (.sc (.ptr 1 0 none)), .one (.sc (.ptr 2 0 none)), .one (.sc (.int .i64 x.1)), .one (.sc (.int .i64 x.2.1)), .one (.sc (.int .i64 x.2.2.1)), .one .any, .one .any, .one .any, .one .any, .one .any, .one .any, .one .any, .one .any, .one .any, .one .any, .one .any, .one .any, .one .any, .one .any, .one .any, .one .any, .one .any, .one .any, .one .any, .one .any, .one .any, .one .any, .one .any, .one .any, .one .any, .one .any, .one .any, .one .any, .one .any, .one .any, .one .any, .one .any, .one .any, .one .any, .one .any, .one .any, .one .any, .one .any, .one .any, .one .any, .one .any, .one .any, .one .any, .one .any, .one .any, .one .any, .one .any, .one .any, .one .any, .one .any, .one .any, .one .any, .one .any, .one .any], mem := [.live { segs := [.xs (.int .u16) 256 x.2.2.2.1], own := true }, .live { segs := [.xs (.int .u16) 256 x.2.2.2.2.1], own := true }, .live { segs := [.xs (.int .u16) 128 x.2.2.2.2.2.1], own := true }] }
noncomputable def p24_l8_F (N : Nat) (β : Type) (x : (Int × Int × Int × List Int × List Int × List Int × Unit)) (kn : (Int × Int × Int × List Int × List Int × List Int × Unit) → Option β) (ke : ((Int × Int × List Int × List Int × List Int × Unit)) → Option β) : Option β :=
  if (x.2.2.1 < (256:Int)) then
    iter (p24_l11_F N) N (x.1, x.2.1, x.2.2.1, x.2.2.1, x.2.2.2.1, x.2.2.2.2.1, x.2.2.2.2.2.1, ()) fun y4 => (
    kn ((IntKind.i64.wrap (y4.1 + (1:Int))), y4.2.1, (IntKind.i64.wrap (y4.2.2.1 + (IntKind.i64.wrap ((2:Int) * y4.2.1)))), y4.2.2.2.1, y4.2.2.2.2.1, y4.2.2.2.2.2.1, ()))
  else
    ke (x.1, x.2.1, x.2.2.2.1, x.2.2.2.2.1, x.2.2.2.2.2.1, ())
noncomputable def p24_l8_go : Go' ((Int × Int × List Int × List Int × List Int × Unit)) := fun y K => K (.exit 2) { tmps := [.one .any, .one (.sc (.ptr 0 0 none)), .one (.sc (.ptr 1 0 none)), .one (.sc (.ptr 2 0 none)), .one (.sc (.int .i64 y.1)), .one (.sc (.int .i64 y.2.1)), .one .any, .one .any, .one .any, .one .any, .one .any, .one .any, .one .any, .one .any, .one .any, .one .any, .one .any, .one .any, .one .any, .one .any, .one .any, .one .any, .one .any, .one .any, .one .any, .one .any, .one .any, .one .any, .one .any, .one .any, .one .any, .one .any, .one .any, .one .any, .one .any, .one .any, .one .any, .one .any, .one .any, .one .any, .one .any, .one .any, .one .any, .one .any, .one .any, .one .any, .one .any, .one .any, .one .any, .one .any, .one .any, .one .any, .one .any, .one .any, .one .any, .one .any, .one .any, .one .any, .one .any, .one .any, .one .any], mem := [.live { segs := [.xs (.int .u16) 256 y.2.2.1], own := true }, .live { segs := [.xs (.int .u16) 256 y.2.2.2.1], own := true }, .live { segs := [.xs (.int .u16) 128 y.2.2.2.2.1], own := true }] }
noncomputable def p24_l8_L (N : Nat) : LT := upd (p24_l11_L N) 8 (loopE p24_l8_S N (p24_l8_F N) p24_l8_go)
theorem p24_l8_ok (N : Nat) : OkAll p24_E p24_H N (p24_l8_L N) (subs p24_c) :=
  addLoop (c := theLoop 8 p24_c) (p24_l11_ok N) (by kernel_rfl) (fun x => by kernel_rfl) (fun β x kn ke => by kernel_rfl)
noncomputable def p24_l5_S : Shape where
  h := { tmps := [.any, .sc (.ptr 0 0 false), .sc (.ptr 1 0 false), .sc (.ptr 2 0 false), .sc (.int .i64), .sc (.int .i64), .any, .any, .any, .any, .any, .any, .any, .any, .any, .any, .any, .any, .any, .any, .any, .any, .any, .any, .any, .any, .any, .any, .any, .any, .any, .any, .any, .any, .any, .any, .any, .any, .any, .any, .any, .any, .any, .any, .any, .any, .any, .any, .any, .any, .any, .any, .any, .any, .any, .any, .any, .any, .any, .any, .any], mem := [.live [.xs (.int .u16) (some 256)] true, .live [.xs (.int .u16) (some 256)] true, .live [.xs (.int .u16) (some 128)] true] }
  ks := [.int, .int, .xs, .xs, .xs]
  st := fun x => { tmps := [.one .any, .one (.sc (.ptr 0 0 none)), .one (.sc (.ptr 1 0 none)), .one (.sc (.ptr 2 0 none)), .one (.sc (.int .i64 x.1)), .one (.sc (.int .i64 x.2.1)), .one .any, .one .any, .one .any, .one .any, .one .any, .one .any, .one .any, .one .any, .one .any, .one .any, .one .any, .one .any, .one .any, .one .any, .one .any, .one .any, .one .any, .one .any, .one .any, .one .any, .one .any, .one .any, .one .any, .one .any, .one .any, .one .any, .one .any, .one .any, .one .any, .one .any, .one .any, .one .any, .one .any, .one .any, .one .any, .one .any, .one .any, .one .any, .one .any, .one .any, .one .any, .one .any, .one .any, .one .any, .one .any, .one .any, .one .any, .one .any, .one .any, .one .any, .one .any, .one .any, .one .any, .one .any, .one .any], mem := [.live { segs := [.xs (.int .u16) 256 x.2.2.1], own := true }, .live { segs := [.xs (.int .u16) 256 x.2.2.2.1], own := true }, .live { segs := [.xs (.int .u16) 128 x.2.2.2.2.1], own := true }] }
noncomputable def p24_l5_F (N : Nat) (β : Type) (x : (Int × Int × List Int × List Int × List Int × Unit)) (kn : (Int × Int × List Int × List Int × List Int × Unit) → Option β) (ke : ((List Int × List Int × Unit)) → Option β) : Option β :=
  if (x.2.1 ≥ (2:Int)) then
    iter (p24_l8_F N) N (x.1, x.2.1, (0:Int), x.2.2.1, x.2.2.2.1, x.2.2.2.2.1, ()) fun y5 => (
    kn (y5.1, (IntKind.i64.wrap (Int.tdiv y5.2.1 (2:Int))), y5.2.2.1, y5.2.2.2.1, y5.2.2.2.2.1, ()))
  else
    ke (x.2.2.1, x.2.2.2.1, ())
noncomputable def p24_l5_go : Go' ((List Int × List Int × Unit)) := fun y K => K (.exit 0) { tmps := [.one .any, .one (.sc (.ptr 0 0 none)), .one (.sc (.ptr 1 0 none)), .one .any, .one .any, .one .any, .one .any, .one .any, .one .any, .one .any, .one .any, .one .any, .one .any, .one .any, .one .any, .one .any, .one .any, .one .any, .one .any, .one .any, .one .any, .one .any, .one .any, .one .any, .one .any, .one .any, .one .any, .one .any, .one .any, .one .any, .one .any, .one .any, .one .any, .one .any, .one .any, .one .any, .one .any, .one .any, .one .any, .one .any, .one .any, .one .any, .one .any, .one .any, .one .any, .one .any, .one .any, .one .any, .one .any, .one .any, .one .any, .one .any, .one .any, .one .any, .one .any, .one .any, .one .any, .one .any, .one .any, .one .any, .one .any], mem := [.live { segs := [.xs (.int .u16) 256 y.1], own := true }, .live { segs := [.xs (.int .u16) 256 y.2.1], own := true }] }
noncomputable def p24_l5_L (N : Nat) : LT := upd (p24_l8_L N) 5 (loopE p24_l5_S N (p24_l5_F N) p24_l5_go)
theorem p24_l5_ok (N : Nat) : OkAll p24_E p24_H N (p24_l5_L N) (subs p24_c) :=
  addLoop (c := theLoop 5 p24_c) (p24_l8_ok N) (by kernel_rfl) (fun x => by kernel_rfl) (fun β x kn ke => by kernel_rfl)
abbrev p24_ks : List Kd := [.xs (.int .u16) 256]
abbrev p24_rs : List Kd := [.xs (.int .u16) 256]
noncomputable def p24 (N : Nat) (x : List Int × Unit) : Option (List Int) :=
  (g37 (x.1, ())).bind fun r1 => (
  (g46 (())).bind fun r2 => (
  iter (p24_l5_F N) N ((1:Int), (128:Int), r1, (List.replicate 256 0), r2, ()) fun y6 => (
  some y6.1)))
theorem p24_eq (N : Nat) (x : Ds [.xs (.int .u16) 256]) : funL p24_E p24_H (p24_l5_L N) N Go.Proofs.Try.f24 p24_c [.xs (.int .u16) 256] [.xs (.int .u16) 256] x = p24 N x := by kernel_rfl
theorem p24_Eok (he37 : SigOk Go.Proofs.Try.prog 37 ⟨[.xs (.int .u16) 256], [.xs (.int .u16) 256], g37⟩) (he46 : SigOk Go.Proofs.Try.prog 46 ⟨[], [.xs (.int .u16) 128], g46⟩) (he47 : SigOk Go.Proofs.Try.prog 47 ⟨[.int .u16, .int .u16], [.int .u16], g47⟩) : p24_E.Ok Go.Proofs.Try.prog := AE.of_ok (all_cons ty22_ok (all_cons ty24_ok (all_cons ty48_ok all_nil))) (all_cons ⟨he37, enters37⟩ (all_cons ⟨he46, enters46⟩ (all_cons ⟨he47, enters47⟩ all_nil)))
theorem p24_ok (he37 : SigOk Go.Proofs.Try.prog 37 ⟨[.xs (.int .u16) 256], [.xs (.int .u16) 256], g37⟩) (he46 : SigOk Go.Proofs.Try.prog 46 ⟨[], [.xs (.int .u16) 128], g46⟩) (he47 : SigOk Go.Proofs.Try.prog 47 ⟨[.int .u16, .int .u16], [.int .u16], g47⟩) {g : Ds [.xs (.int .u16) 256] → Option (Rs [.xs (.int .u16) 256])} (hg : ∀ x r, g x = some r → ∃ N, p24 N x = some r) : SigOk Go.Proofs.Try.prog 24 ⟨[.xs (.int .u16) 256], [.xs (.int .u16) 256], g⟩ :=
  fun_of (E := p24_E) (H := p24_H) (L := fun N => p24_l5_L N) (c := p24_c) (ks := p24_ks) (rs := p24_rs) (F := p24) (p24_Eok he37 he46 he47) mix Go.Proofs.Try.func24 (by kernel_rfl) (fun N => p24_l5_ok N) p24_eq hg

/-! livery/liverylaw13.live -/
noncomputable def p18_E : AE := AE.of [(22, ty22), (24, ty24)] [(24, ⟨[.xs (.int .u16) 256], [.xs (.int .u16) 256], g24⟩), (14, ⟨[.int .i64, .xs (.int .u16) 256], [.xs (.int .u16) 256, .int .i64], g14⟩), (16, ⟨[.int .i64, .xs (.int .u16) 256], [.xs (.int .u16) 256, .int .i64], g16⟩)]
noncomputable def p18_H : Hints := [(3000000, [0])]
noncomputable def p18_c : Code := (Go.Proofs.Try.f18).body.getD .skip
abbrev p18_ks : List Kd := []
abbrev p18_rs : List Kd := [.bool]
noncomputable def p18 (N : Nat) (x : Unit) : Option (Bool) :=
  (g24 ((List.set (List.replicate 256 0) 0 (1:Int)), ())).bind fun r1 => (
  (g14 ((1:Int), (List.set (List.set (List.replicate 256 0) 0 (833:Int)) 1 (832:Int)), ())).bind fun r2 => (
  (g16 ((1:Int), (List.set (List.replicate 256 0) 0 (1:Int)), ())).bind fun r3 => (
  if ((List.getD r1 0 0) = (1:Int)) then
    if ((List.getD r1 1 0) = (0:Int)) then
      if ((List.getD r1 2 0) = (1:Int)) then
        if ((List.getD r1 254 0) = (1:Int)) then
          if ((List.getD r2.1 0 0) = (1:Int)) then
            if ((List.getD r2.1 1 0) = (0:Int)) then
              if ((List.getD r3.1 0 0) = (1665:Int)) then
                if (r2.2 = (0:Int)) then
                  some (decide (r3.2 = (0:Int)))
                else
                  some false
              else
                some false
            else
              some false
          else
            some false
        else
          some false
      else
        some false
    else
      some false
  else
    some false)))
theorem p18_eq (N : Nat) (x : Ds []) : funL p18_E p18_H (LT.nil) N Go.Proofs.Try.f18 p18_c [] [.bool] x = p18 N x := by kernel_rfl
theorem p18_Eok (he24 : SigOk Go.Proofs.Try.prog 24 ⟨[.xs (.int .u16) 256], [.xs (.int .u16) 256], g24⟩) (he14 : SigOk Go.Proofs.Try.prog 14 ⟨[.int .i64, .xs (.int .u16) 256], [.xs (.int .u16) 256, .int .i64], g14⟩) (he16 : SigOk Go.Proofs.Try.prog 16 ⟨[.int .i64, .xs (.int .u16) 256], [.xs (.int .u16) 256, .int .i64], g16⟩) : p18_E.Ok Go.Proofs.Try.prog := AE.of_ok (all_cons ty22_ok (all_cons ty24_ok all_nil)) (all_cons ⟨he24, enters24⟩ (all_cons ⟨he14, enters14⟩ (all_cons ⟨he16, enters16⟩ all_nil)))
theorem p18_ok (he24 : SigOk Go.Proofs.Try.prog 24 ⟨[.xs (.int .u16) 256], [.xs (.int .u16) 256], g24⟩) (he14 : SigOk Go.Proofs.Try.prog 14 ⟨[.int .i64, .xs (.int .u16) 256], [.xs (.int .u16) 256, .int .i64], g14⟩) (he16 : SigOk Go.Proofs.Try.prog 16 ⟨[.int .i64, .xs (.int .u16) 256], [.xs (.int .u16) 256, .int .i64], g16⟩) {g : Ds [] → Option (Rs [.bool])} (hg : ∀ x r, g x = some r → ∃ N, p18 N x = some r) : SigOk Go.Proofs.Try.prog 18 ⟨[], [.bool], g⟩ :=
  fun_of (E := p18_E) (H := p18_H) (L := fun N => LT.nil) (c := p18_c) (ks := p18_ks) (rs := p18_rs) (F := p18) (p18_Eok he24 he14 he16) mix Go.Proofs.Try.func18 (by kernel_rfl) (fun N => OkAll.nil) p18_eq hg

/-! livery/liverylaw13.RingCompresses -/
noncomputable def p3_E : AE := AE.of [(22, ty22), (24, ty24)] [(14, ⟨[.int .i64, .xs (.int .u16) 256], [.xs (.int .u16) 256, .int .i64], g14⟩), (15, ⟨[.int .i64, .xs (.int .u16) 256], [.xs (.int .u16) 256, .int .i64], g15⟩), (16, ⟨[.int .i64, .xs (.int .u16) 256], [.xs (.int .u16) 256, .int .i64], g16⟩), (17, ⟨[.int .i64, .xs (.int .u16) 256], [.xs (.int .u16) 256, .int .i64], g17⟩), (18, ⟨[], [.bool], g18⟩)]
noncomputable def p3_H : Hints := [(3000000, [4])]
noncomputable def p3_c : Code := (Go.Proofs.Try.f3).body.getD .skip
abbrev p3_ks : List Kd := [.int .i64, .xs (.int .u16) 256]
abbrev p3_rs : List Kd := [.bool]
noncomputable def p3 (N : Nat) (x : Int × List Int × Unit) : Option (Bool) :=
  (g14 (x.1, x.2.1, ())).bind fun r1 => (
  (g15 (x.1, x.2.1, ())).bind fun r2 => (
  (g16 (x.1, x.2.1, ())).bind fun r3 => (
  (g17 (x.1, x.2.1, ())).bind fun r4 => (
  (g18 (())).bind fun r5 => (
  if (r5 = true) then
    if (r1.1 = r2.1) then
      if (r1.2 = r2.2) then
        if (r3.1 = r4.1) then
          some (decide (r3.2 = r4.2))
        else
          some false
      else
        some false
    else
      some false
  else
    some false)))))
theorem p3_eq (N : Nat) (x : Ds [.int .i64, .xs (.int .u16) 256]) : funL p3_E p3_H (LT.nil) N Go.Proofs.Try.f3 p3_c [.int .i64, .xs (.int .u16) 256] [.bool] x = p3 N x := by kernel_rfl
theorem p3_Eok (he14 : SigOk Go.Proofs.Try.prog 14 ⟨[.int .i64, .xs (.int .u16) 256], [.xs (.int .u16) 256, .int .i64], g14⟩) (he15 : SigOk Go.Proofs.Try.prog 15 ⟨[.int .i64, .xs (.int .u16) 256], [.xs (.int .u16) 256, .int .i64], g15⟩) (he16 : SigOk Go.Proofs.Try.prog 16 ⟨[.int .i64, .xs (.int .u16) 256], [.xs (.int .u16) 256, .int .i64], g16⟩) (he17 : SigOk Go.Proofs.Try.prog 17 ⟨[.int .i64, .xs (.int .u16) 256], [.xs (.int .u16) 256, .int .i64], g17⟩) (he18 : SigOk Go.Proofs.Try.prog 18 ⟨[], [.bool], g18⟩) : p3_E.Ok Go.Proofs.Try.prog := AE.of_ok (all_cons ty22_ok (all_cons ty24_ok all_nil)) (all_cons ⟨he14, enters14⟩ (all_cons ⟨he15, enters15⟩ (all_cons ⟨he16, enters16⟩ (all_cons ⟨he17, enters17⟩ (all_cons ⟨he18, enters18⟩ all_nil)))))
theorem p3_ok (he14 : SigOk Go.Proofs.Try.prog 14 ⟨[.int .i64, .xs (.int .u16) 256], [.xs (.int .u16) 256, .int .i64], g14⟩) (he15 : SigOk Go.Proofs.Try.prog 15 ⟨[.int .i64, .xs (.int .u16) 256], [.xs (.int .u16) 256, .int .i64], g15⟩) (he16 : SigOk Go.Proofs.Try.prog 16 ⟨[.int .i64, .xs (.int .u16) 256], [.xs (.int .u16) 256, .int .i64], g16⟩) (he17 : SigOk Go.Proofs.Try.prog 17 ⟨[.int .i64, .xs (.int .u16) 256], [.xs (.int .u16) 256, .int .i64], g17⟩) (he18 : SigOk Go.Proofs.Try.prog 18 ⟨[], [.bool], g18⟩) {g : Ds [.int .i64, .xs (.int .u16) 256] → Option (Rs [.bool])} (hg : ∀ x r, g x = some r → ∃ N, p3 N x = some r) : SigOk Go.Proofs.Try.prog 3 ⟨[.int .i64, .xs (.int .u16) 256], [.bool], g⟩ :=
  fun_of (E := p3_E) (H := p3_H) (L := fun N => LT.nil) (c := p3_c) (ks := p3_ks) (rs := p3_rs) (F := p3) (p3_Eok he14 he15 he16 he17 he18) mix Go.Proofs.Try.func3 (by kernel_rfl) (fun N => OkAll.nil) p3_eq hg
end Go.Ax.TryP
