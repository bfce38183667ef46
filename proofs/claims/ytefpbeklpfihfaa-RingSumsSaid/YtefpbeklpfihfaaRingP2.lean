/- A part of the proof: RingP2. -/
import Derived.Test.YtefpbeklpfihfaaRingS2
/-! Printed by program (gen.py). -/
set_option linter.unusedVariables false
namespace Go.Ax.TryP
/-! livery/liverylaw13.RingNear -/
noncomputable def p4_E : AE := AE.of [(3, ty3), (22, ty22), (24, ty24), (31, ty31)] [(14, ⟨[.int .i64, .xs (.int .u16) 256], [.xs (.int .u16) 256, .int .i64], g14⟩), (16, ⟨[.int .i64, .xs (.int .u16) 256], [.xs (.int .u16) 256, .int .i64], g16⟩), (18, ⟨[], [.bool], g18⟩), (19, ⟨[.int .i64, .int .i64, .int .i64], [.int .i64], g19⟩)]
noncomputable def p4_H : Hints := [(7, [0, 3, 5, 7, 9, 47]), (2000000, []), (2000001, [0, 3, 5, 7, 9, 47]), (3000000, [4])]
noncomputable def p4_c : Code := (Go.Proofs.Try.f4).body.getD .skip
noncomputable def p4_l7_S : Shape where
  h := { tmps := [.sc (.int .i64), .any, .any, .sc (.ptr 0 0 false), .any, .sc (.ptr 1 0 false), .any, .sc (.ptr 2 0 false), .any, .sc (.int .i64), .any, .any, .any, .any, .any, .any, .any, .any, .any, .any, .any, .any, .any, .any, .any, .any, .any, .any, .any, .any, .any, .any, .any, .any, .any, .any, .any, .any, .any, .any, .any, .any, .any, .any, .any, .any, .any, .sc (.int .i64), .any, .any, .any, .any, .any, .any, .any, .any, .any, .any, .any, .any, .any, .any, .any, .any, .any, .any, .any, .any, .any, .any, .any, .any, .any, .any, .any, .any, .any, .any, .any], mem := [.live [.xs (.int .u16) (some 256)] true, .live [.xs (.int .u16) (some 256)] true, .live [.xs (.int .u16) (some 256)] true] }
  ks := [.int, .int, .int, .xs, .xs, .xs]
  st := fun x => { tmps := [.one (.sc (.int .i64 x.1)), .one .any, .one .any, .one (.sc (.ptr 0 0 none)), .one .any, .one (.sc (.ptr 1 0 none)), .one .any, .one (.sc (.ptr 2 0 none)), .one .any, .one (.sc (.int .i64 x.2.1)), .one .any, .one .any, .one .any, .one .any, .one .any, .one .any, .one .any, .one .any, .one .any, .one .any, .one .any, .one .any, .one .any, .one .any, .one .any, .one .any, .one .any, .one .any, .one .any, .one .any, .one .any, .one .any, .one .any, .one .any, .one .any, .one .any, .one .any, .one .any, .one .any, .one .any, .one .any, .one .any, .one .any, .one .any, .one .any, .one .any, .one .any, .one (.sc (.int .i64 x.2.2.1)), .one .any, .one .any, .one .any, .one .any, .one .any, .one .any, .one .any, .one .any, .one .any, .one .any, .one .any, .one .any, .one .any, .one .any, .one .any, .one .any, .one .any, .one .any, .one .any, .one .any, .one .any, .one .any, .one .any, .one .any, .one .any, .one .any, .one .any, .one .any, .one .any, .one .any, .one .any], mem := [.live { segs := [.xs (.int .u16) 256 x.2.2.2.1], own := true }, .live { segs := [.xs (.int .u16) 256 x.2.2.2.2.1], own := true }, .live { segs := [.xs (.int .u16) 256 x.2.2.2.2.2.1], own := true }] }
noncomputable def p4_l7_F (N : Nat) (β : Type) (x : (Int × Int × Int × List Int × List Int × List Int × Unit)) (kn : (Int × Int × Int × List Int × List Int × List Int × Unit) → Option β) (ke : ((Bool × Unit) ⊕ (Unit)) → Option β) : Option β :=
  if (x.2.2.1 < (256:Int)) then
    if 0 ≤ x.2.2.1 then (
    if x.2.2.1 < 256 then (
    if (x.2.2.1.toNat) < 256 then (
    if 0 ≤ x.2.2.1 then (
    if x.2.2.1 < 256 then (
    if (x.2.2.1.toNat) < 256 then (
    if ((if (IntKind.i64.wrap ((3329:Int) - (Int.tmod (IntKind.i64.wrap ((IntKind.i64.wrap ((IntKind.i64.wrap (List.getD x.2.2.2.2.2.1 (x.2.2.1.toNat) 0)) + (3329:Int))) - (IntKind.i64.wrap (Int.tmod (List.getD x.2.2.2.1 (x.2.2.1.toNat) 0) (3329:Int))))) (3329:Int)))) < (Int.tmod (IntKind.i64.wrap ((IntKind.i64.wrap ((IntKind.i64.wrap (List.getD x.2.2.2.2.2.1 (x.2.2.1.toNat) 0)) + (3329:Int))) - (IntKind.i64.wrap (Int.tmod (List.getD x.2.2.2.1 (x.2.2.1.toNat) 0) (3329:Int))))) (3329:Int)) then (IntKind.i64.wrap ((3329:Int) - (Int.tmod (IntKind.i64.wrap ((IntKind.i64.wrap ((IntKind.i64.wrap (List.getD x.2.2.2.2.2.1 (x.2.2.1.toNat) 0)) + (3329:Int))) - (IntKind.i64.wrap (Int.tmod (List.getD x.2.2.2.1 (x.2.2.1.toNat) 0) (3329:Int))))) (3329:Int)))) else (Int.tmod (IntKind.i64.wrap ((IntKind.i64.wrap ((IntKind.i64.wrap (List.getD x.2.2.2.2.2.1 (x.2.2.1.toNat) 0)) + (3329:Int))) - (IntKind.i64.wrap (Int.tmod (List.getD x.2.2.2.1 (x.2.2.1.toNat) 0) (3329:Int))))) (3329:Int))) > x.2.1) then
      ke (.inl (false, ()))
    else
      if 0 ≤ x.2.2.1 then (
      if x.2.2.1 < 256 then (
      if (x.2.2.1.toNat) < 256 then (
      if (IntKind.u64.wrap x.1) < 0 then none else (
      if ((IntKind.i64.wrap (List.getD x.2.2.2.2.1 (x.2.2.1.toNat) 0)) ≥ (ishl IntKind.i64 (1:Int) (IntKind.u64.wrap x.1))) then
        ke (.inl (false, ()))
      else
        kn (x.1, x.2.1, (IntKind.i64.wrap (x.2.2.1 + (1:Int))), x.2.2.2.1, x.2.2.2.2.1, x.2.2.2.2.2.1, ()))) else none) else none) else none) else none) else none) else none) else none) else none) else none
  else
    ke (.inr (()))
noncomputable def p4_l7_go : Go' ((Bool × Unit) ⊕ (Unit)) := fun y K => match y with
  | .inl y => K .ret { tmps := [.one .any, .one .any, .one .any, .one .any, .one (.sc (.known y.1)), .one .any, .one .any, .one .any, .one .any, .one .any, .one .any, .one .any, .one .any, .one .any, .one .any, .one .any, .one .any, .one .any, .one .any, .one .any, .one .any, .one .any, .one .any, .one .any, .one .any, .one .any, .one .any, .one .any, .one .any, .one .any, .one .any, .one .any, .one .any, .one .any, .one .any, .one .any, .one .any, .one .any, .one .any, .one .any, .one .any, .one .any, .one .any, .one .any, .one .any, .one .any, .one .any, .one .any, .one .any, .one .any, .one .any, .one .any, .one .any, .one .any, .one .any, .one .any, .one .any, .one .any, .one .any, .one .any, .one .any, .one .any, .one .any, .one .any, .one .any, .one .any, .one .any, .one .any, .one .any, .one .any, .one .any, .one .any, .one .any, .one .any, .one .any, .one .any, .one .any, .one .any, .one .any], mem := [] }
  | .inr y => K (.exit 0) { tmps := [.one .any, .one .any, .one .any, .one .any, .one .any, .one .any, .one .any, .one .any, .one .any, .one .any, .one .any, .one .any, .one .any, .one .any, .one .any, .one .any, .one .any, .one .any, .one .any, .one .any, .one .any, .one .any, .one .any, .one .any, .one .any, .one .any, .one .any, .one .any, .one .any, .one .any, .one .any, .one .any, .one .any, .one .any, .one .any, .one .any, .one .any, .one .any, .one .any, .one .any, .one .any, .one .any, .one .any, .one .any, .one .any, .one .any, .one .any, .one .any, .one .any, .one .any, .one .any, .one .any, .one .any, .one .any, .one .any, .one .any, .one .any, .one .any, .one .any, .one .any, .one .any, .one .any, .one .any, .one .any, .one .any, .one .any, .one .any, .one .any, .one .any, .one .any, .one .any, .one .any, .one .any, .one .any, .one .any, .one .any, .one .any, .one .any, .one .any], mem := [] }
noncomputable def p4_l7_L (N : Nat) : LT := upd (LT.nil) 7 (loopE p4_l7_S N (p4_l7_F N) p4_l7_go)
theorem p4_l7_ok (N : Nat) : OkAll p4_E p4_H N (p4_l7_L N) (subs p4_c) :=
  addLoop (c := theLoop 7 p4_c) (OkAll.nil) (by kernel_rfl) (fun x => by kernel_rfl) (fun β x kn ke => by kernel_rfl)
abbrev p4_ks : List Kd := [.int .i64, .xs (.int .u16) 256]
abbrev p4_rs : List Kd := [.bool]
noncomputable def p4 (N : Nat) (x : Int × List Int × Unit) : Option (Bool) :=
  (g14 (x.1, x.2.1, ())).bind fun r1 => (
  (g16 (x.1, r1.1, ())).bind fun r2 => (
  (g18 (())).bind fun r3 => (
  if (¬ (r3 = true)) then
    (g18 (())).bind fun r4 => (
    if (r4 = true) then
      if (x.1 < (1:Int)) then
        some true
      else
        some (decide (x.1 > (11:Int)))
    else
      some false)
  else
    if (r1.2 ≠ (0:Int)) then
      (g18 (())).bind fun r5 => (
      if (r5 = true) then
        if (x.1 < (1:Int)) then
          some true
        else
          some (decide (x.1 > (11:Int)))
      else
        some false)
    else
      if (r2.2 ≠ (0:Int)) then
        (g18 (())).bind fun r6 => (
        if (r6 = true) then
          if (x.1 < (1:Int)) then
            some true
          else
            some (decide (x.1 > (11:Int)))
        else
          some false)
      else
        if (IntKind.u64.wrap x.1) < 0 then none else (
        (g19 ((1:Int), (3329:Int), (ishl IntKind.i64 (2:Int) (IntKind.u64.wrap x.1)), ())).bind fun r7 => (
        iter (p4_l7_F N) N (x.1, r7, (0:Int), x.2.1, r1.1, r2.1, ()) fun y => (match y with
        | .inl y8 => (
          some y8.1)
        | .inr y9 => (
          some true)))))))
theorem p4_eq (N : Nat) (x : Ds [.int .i64, .xs (.int .u16) 256]) : funL p4_E p4_H (p4_l7_L N) N Go.Proofs.Try.f4 p4_c [.int .i64, .xs (.int .u16) 256] [.bool] x = p4 N x := by kernel_rfl
theorem p4_Eok (he14 : SigOk Go.Proofs.Try.prog 14 ⟨[.int .i64, .xs (.int .u16) 256], [.xs (.int .u16) 256, .int .i64], g14⟩) (he16 : SigOk Go.Proofs.Try.prog 16 ⟨[.int .i64, .xs (.int .u16) 256], [.xs (.int .u16) 256, .int .i64], g16⟩) (he18 : SigOk Go.Proofs.Try.prog 18 ⟨[], [.bool], g18⟩) (he19 : SigOk Go.Proofs.Try.prog 19 ⟨[.int .i64, .int .i64, .int .i64], [.int .i64], g19⟩) : p4_E.Ok Go.Proofs.Try.prog := AE.of_ok (all_cons ty3_ok (all_cons ty22_ok (all_cons ty24_ok (all_cons ty31_ok all_nil)))) (all_cons ⟨he14, enters14⟩ (all_cons ⟨he16, enters16⟩ (all_cons ⟨he18, enters18⟩ (all_cons ⟨he19, enters19⟩ all_nil))))
theorem p4_ok (he14 : SigOk Go.Proofs.Try.prog 14 ⟨[.int .i64, .xs (.int .u16) 256], [.xs (.int .u16) 256, .int .i64], g14⟩) (he16 : SigOk Go.Proofs.Try.prog 16 ⟨[.int .i64, .xs (.int .u16) 256], [.xs (.int .u16) 256, .int .i64], g16⟩) (he18 : SigOk Go.Proofs.Try.prog 18 ⟨[], [.bool], g18⟩) (he19 : SigOk Go.Proofs.Try.prog 19 ⟨[.int .i64, .int .i64, .int .i64], [.int .i64], g19⟩) {g : Ds [.int .i64, .xs (.int .u16) 256] → Option (Rs [.bool])} (hg : ∀ x r, g x = some r → ∃ N, p4 N x = some r) : SigOk Go.Proofs.Try.prog 4 ⟨[.int .i64, .xs (.int .u16) 256], [.bool], g⟩ :=
  fun_of (E := p4_E) (H := p4_H) (L := fun N => p4_l7_L N) (c := p4_c) (ks := p4_ks) (rs := p4_rs) (F := p4) (p4_Eok he14 he16 he18 he19) mix Go.Proofs.Try.func4 (by kernel_rfl) (fun N => p4_l7_ok N) p4_eq hg

/-! livery/liverylaw13.RingPairs -/
noncomputable def p5_E : AE := AE.of [(22, ty22), (24, ty24)] [(18, ⟨[], [.bool], g18⟩), (20, ⟨[.xs (.int .u16) 256, .xs (.int .u16) 256], [.xs (.int .u16) 256], g20⟩), (21, ⟨[.xs (.int .u16) 256, .xs (.int .u16) 256], [.xs (.int .u16) 256], g21⟩)]
noncomputable def p5_H : Hints := [(3000000, [4])]
noncomputable def p5_c : Code := (Go.Proofs.Try.f5).body.getD .skip
abbrev p5_ks : List Kd := [.xs (.int .u16) 256, .xs (.int .u16) 256]
abbrev p5_rs : List Kd := [.bool]
noncomputable def p5 (N : Nat) (x : List Int × List Int × Unit) : Option (Bool) :=
  (g18 (())).bind fun r1 => (
  if (r1 = true) then
    (g20 (x.1, x.2.1, ())).bind fun r2 => (
    (g21 (x.1, x.2.1, ())).bind fun r3 => (
    some (decide (r2 = r3))))
  else
    some false)
theorem p5_eq (N : Nat) (x : Ds [.xs (.int .u16) 256, .xs (.int .u16) 256]) : funL p5_E p5_H (LT.nil) N Go.Proofs.Try.f5 p5_c [.xs (.int .u16) 256, .xs (.int .u16) 256] [.bool] x = p5 N x := by kernel_rfl
theorem p5_Eok (he18 : SigOk Go.Proofs.Try.prog 18 ⟨[], [.bool], g18⟩) (he20 : SigOk Go.Proofs.Try.prog 20 ⟨[.xs (.int .u16) 256, .xs (.int .u16) 256], [.xs (.int .u16) 256], g20⟩) (he21 : SigOk Go.Proofs.Try.prog 21 ⟨[.xs (.int .u16) 256, .xs (.int .u16) 256], [.xs (.int .u16) 256], g21⟩) : p5_E.Ok Go.Proofs.Try.prog := AE.of_ok (all_cons ty22_ok (all_cons ty24_ok all_nil)) (all_cons ⟨he18, enters18⟩ (all_cons ⟨he20, enters20⟩ (all_cons ⟨he21, enters21⟩ all_nil)))
theorem p5_ok (he18 : SigOk Go.Proofs.Try.prog 18 ⟨[], [.bool], g18⟩) (he20 : SigOk Go.Proofs.Try.prog 20 ⟨[.xs (.int .u16) 256, .xs (.int .u16) 256], [.xs (.int .u16) 256], g20⟩) (he21 : SigOk Go.Proofs.Try.prog 21 ⟨[.xs (.int .u16) 256, .xs (.int .u16) 256], [.xs (.int .u16) 256], g21⟩) {g : Ds [.xs (.int .u16) 256, .xs (.int .u16) 256] → Option (Rs [.bool])} (hg : ∀ x r, g x = some r → ∃ N, p5 N x = some r) : SigOk Go.Proofs.Try.prog 5 ⟨[.xs (.int .u16) 256, .xs (.int .u16) 256], [.bool], g⟩ :=
  fun_of (E := p5_E) (H := p5_H) (L := fun N => LT.nil) (c := p5_c) (ks := p5_ks) (rs := p5_rs) (F := p5) (p5_Eok he18 he20 he21) mix Go.Proofs.Try.func5 (by kernel_rfl) (fun N => OkAll.nil) p5_eq hg

/-! livery/ring.MulNtt -/
noncomputable def p20_E : AE := AE.of [(22, ty22), (24, ty24), (48, ty48)] [(37, ⟨[.xs (.int .u16) 256], [.xs (.int .u16) 256], g37⟩), (46, ⟨[], [.xs (.int .u16) 128], g46⟩), (47, ⟨[.int .u16, .int .u16], [.int .u16], g47⟩)]
noncomputable def p20_H : Hints := [(5, [2, 3, 4, 5, 6, 18]), (2000000, [4, 6]), (2000001, [2, 3, 4, 5, 6, 18]), (3000000, [4])]
noncomputable def p20_c : Code := (Go.Proofs.Try.f20).body.getD .skip
noncomputable def p20_l5_S : Shape where
  h := { tmps := [.any, .any, .sc (.ptr 0 0 false), .sc (.ptr 1 0 false), .sc (.ptr 2 0 false), .sc (.ptr 3 0 false), .sc (.ptr 4 0 false), .any, .any, .any, .any, .any, .any, .any, .any, .any, .any, .any, .sc (.int .i64), .any, .any, .any, .any, .any, .any, .any, .any, .any, .any, .any, .any, .any, .any, .any, .any, .any, .any, .any, .any, .any, .any, .any, .any, .any, .any, .any, .any, .any, .any, .any, .any, .any, .any, .any, .any, .any, .any, .any, .any, .any, .any, .any, .any, .any, .any, .any, .any, .any, .any, .any, .any, .any, .any, .any], mem := [.live [.xs (.int .u16) (some 256)] true, .live [.xs (.int .u16) (some 256)] true, .live [.xs (.int .u16) (some 256)] true, .live [.xs (.int .u16) (some 128)] true, .live [.xs (.int .u16) (some 256)] true] }
  ks := [.int, .xs, .xs, .xs, .xs, .xs]
  st := fun x => { tmps := [.one .any, .one .any, .one (.sc (.ptr 0 0 none)), .one (.sc (.ptr 1 0 none)), .one (.sc (.ptr 2 0 none)), .one (.sc (.ptr 3 0 none)), .one (.sc (.ptr 4 0 none)), .one .any, .one .any, .one .any, .one .any, .one .any, .one .any, .one .any, .one .any, .one .any, .one .any, .one .any, .one (.sc (.int .i64 x.1)), .one .any, .one .any, .one .any, .one .any, .one .any, .one .any, .one .any, .one .any, .one .any, .one .any, .one .any, .one .any, .one .any, .one .any, .one .any, .one .any, .one .any, .one .any, .one .any, .one .any, .one .any, .one .any, .one .any, .one .any, .one .any, .one .any, .one .any, .one .any, .one .any, .one .any, .one .any, .one .any, .one .any, .one .any, .one .any, .one .any, .one .any, .one .any, .one .any, .one .any, .one .any, .one .any, .one .any, .one .any, .one .any, .one .any, .one .any, .one .any, .one .any, .one .any, .one .any, .one .any, .one .any, .one .any, .one .any], mem := [.live { segs := [.xs (.int .u16) 256 x.2.1], own := true }, .live { segs := [.xs (.int .u16) 256 x.2.2.1], own := true }, .live { segs := [.xs (.int .u16) 256 x.2.2.2.1], own := true }, .live { segs := [.xs (.int .u16) 128 x.2.2.2.2.1], own := true }, .live { segs := [.xs (.int .u16) 256 x.2.2.2.2.2.1], own := true }] }
noncomputable def p20_l5_F (N : Nat) (β : Type) (x : (Int × List Int × List Int × List Int × List Int × List Int × Unit)) (kn : (Int × List Int × List Int × List Int × List Int × List Int × Unit) → Option β) (ke : ((List Int × List Int × Unit)) → Option β) : Option β :=
  if (x.1 < (128:Int)) then
    if 0 ≤ x.1 then (
    if x.1 < 128 then (
    if (x.1.toNat) < 128 then (
    if 0 ≤ x.1 then (
    if x.1 < 128 then (
    if (x.1.toNat) < 128 then (
    (g47 ((List.getD x.2.2.2.2.1 (x.1.toNat) 0), (List.getD x.2.2.2.2.1 (x.1.toNat) 0), ())).bind fun r4 => (
    (g47 (r4, (17:Int), ())).bind fun r5 => (
    if 0 ≤ (IntKind.i64.wrap ((2:Int) * x.1)) then (
    if (IntKind.i64.wrap ((2:Int) * x.1)) < 256 then (
    if ((IntKind.i64.wrap ((2:Int) * x.1)).toNat) < 256 then (
    if 0 ≤ (IntKind.i64.wrap ((IntKind.i64.wrap ((2:Int) * x.1)) + (1:Int))) then (
    if (IntKind.i64.wrap ((IntKind.i64.wrap ((2:Int) * x.1)) + (1:Int))) < 256 then (
    if ((IntKind.i64.wrap ((IntKind.i64.wrap ((2:Int) * x.1)) + (1:Int))).toNat) < 256 then (
    if 0 ≤ (IntKind.i64.wrap ((2:Int) * x.1)) then (
    if (IntKind.i64.wrap ((2:Int) * x.1)) < 256 then (
    if ((IntKind.i64.wrap ((2:Int) * x.1)).toNat) < 256 then (
    if 0 ≤ (IntKind.i64.wrap ((IntKind.i64.wrap ((2:Int) * x.1)) + (1:Int))) then (
    if (IntKind.i64.wrap ((IntKind.i64.wrap ((2:Int) * x.1)) + (1:Int))) < 256 then (
    if ((IntKind.i64.wrap ((IntKind.i64.wrap ((2:Int) * x.1)) + (1:Int))).toNat) < 256 then (
    (g47 ((List.getD x.2.1 ((IntKind.i64.wrap ((2:Int) * x.1)).toNat) 0), (List.getD x.2.2.1 ((IntKind.i64.wrap ((2:Int) * x.1)).toNat) 0), ())).bind fun r6 => (
    (g47 ((List.getD x.2.1 ((IntKind.i64.wrap ((IntKind.i64.wrap ((2:Int) * x.1)) + (1:Int))).toNat) 0), (List.getD x.2.2.1 ((IntKind.i64.wrap ((IntKind.i64.wrap ((2:Int) * x.1)) + (1:Int))).toNat) 0), ())).bind fun r7 => (
    (g47 (r7, r5, ())).bind fun r8 => (
    if 0 ≤ (IntKind.i64.wrap ((2:Int) * x.1)) then (
    if (IntKind.i64.wrap ((2:Int) * x.1)) < 256 then (
    if ((IntKind.i64.wrap ((2:Int) * x.1)).toNat) < 256 then (
    (g47 ((List.getD x.2.1 ((IntKind.i64.wrap ((2:Int) * x.1)).toNat) 0), (List.getD x.2.2.1 ((IntKind.i64.wrap ((IntKind.i64.wrap ((2:Int) * x.1)) + (1:Int))).toNat) 0), ())).bind fun r9 => (
    (g47 ((List.getD x.2.1 ((IntKind.i64.wrap ((IntKind.i64.wrap ((2:Int) * x.1)) + (1:Int))).toNat) 0), (List.getD x.2.2.1 ((IntKind.i64.wrap ((2:Int) * x.1)).toNat) 0), ())).bind fun r10 => (
    if 0 ≤ (IntKind.i64.wrap ((IntKind.i64.wrap ((2:Int) * x.1)) + (1:Int))) then (
    if (IntKind.i64.wrap ((IntKind.i64.wrap ((2:Int) * x.1)) + (1:Int))) < 256 then (
    if ((IntKind.i64.wrap ((IntKind.i64.wrap ((2:Int) * x.1)) + (1:Int))).toNat) < 256 then (
    kn ((IntKind.i64.wrap (x.1 + (1:Int))), x.2.1, x.2.2.1, x.2.2.2.1, x.2.2.2.2.1, (List.set (List.set x.2.2.2.2.2.1 ((IntKind.i64.wrap ((2:Int) * x.1)).toNat) (Int.tmod (IntKind.u16.wrap (r6 + r8)) (3329:Int))) ((IntKind.i64.wrap ((IntKind.i64.wrap ((2:Int) * x.1)) + (1:Int))).toNat) (Int.tmod (IntKind.u16.wrap (r9 + r10)) (3329:Int))), ())) else none) else none) else none))) else none) else none) else none)))) else none) else none) else none) else none) else none) else none) else none) else none) else none) else none) else none) else none))) else none) else none) else none) else none) else none) else none
  else
    ke (x.2.2.2.1, x.2.2.2.2.2.1, ())
noncomputable def p20_l5_go : Go' ((List Int × List Int × Unit)) := fun y K => K (.exit 0) { tmps := [.one .any, .one .any, .one .any, .one .any, .one (.sc (.ptr 0 0 none)), .one .any, .one (.sc (.ptr 1 0 none)), .one .any, .one .any, .one .any, .one .any, .one .any, .one .any, .one .any, .one .any, .one .any, .one .any, .one .any, .one .any, .one .any, .one .any, .one .any, .one .any, .one .any, .one .any, .one .any, .one .any, .one .any, .one .any, .one .any, .one .any, .one .any, .one .any, .one .any, .one .any, .one .any, .one .any, .one .any, .one .any, .one .any, .one .any, .one .any, .one .any, .one .any, .one .any, .one .any, .one .any, .one .any, .one .any, .one .any, .one .any, .one .any, .one .any, .one .any, .one .any, .one .any, .one .any, .one .any, .one .any, .one .any, .one .any, .one .any, .one .any, .one .any, .one .any, .one .any, .one .any, .one .any, .one .any, .one .any, .one .any, .one .any, .one .any, .one .any], mem := [.live { segs := [.xs (.int .u16) 256 y.1], own := true }, .live { segs := [.xs (.int .u16) 256 y.2.1], own := true }] }
noncomputable def p20_l5_L (N : Nat) : LT := upd (LT.nil) 5 (loopE p20_l5_S N (p20_l5_F N) p20_l5_go)
theorem p20_l5_ok (N : Nat) : OkAll p20_E p20_H N (p20_l5_L N) (subs p20_c) :=
  addLoop (c := theLoop 5 p20_c) (OkAll.nil) (by kernel_rfl) (fun x => by kernel_rfl) (fun β x kn ke => by kernel_rfl)
abbrev p20_ks : List Kd := [.xs (.int .u16) 256, .xs (.int .u16) 256]
abbrev p20_rs : List Kd := [.xs (.int .u16) 256]
noncomputable def p20 (N : Nat) (x : List Int × List Int × Unit) : Option (List Int) :=
  (g37 (x.1, ())).bind fun r1 => (
  (g37 (x.2.1, ())).bind fun r2 => (
  (g46 (())).bind fun r3 => (
  iter (p20_l5_F N) N ((0:Int), r1, r2, (List.replicate 256 0), r3, (List.replicate 256 0), ()) fun y11 => (
  some y11.2.1))))
theorem p20_eq (N : Nat) (x : Ds [.xs (.int .u16) 256, .xs (.int .u16) 256]) : funL p20_E p20_H (p20_l5_L N) N Go.Proofs.Try.f20 p20_c [.xs (.int .u16) 256, .xs (.int .u16) 256] [.xs (.int .u16) 256] x = p20 N x := by kernel_rfl
theorem p20_Eok (he37 : SigOk Go.Proofs.Try.prog 37 ⟨[.xs (.int .u16) 256], [.xs (.int .u16) 256], g37⟩) (he46 : SigOk Go.Proofs.Try.prog 46 ⟨[], [.xs (.int .u16) 128], g46⟩) (he47 : SigOk Go.Proofs.Try.prog 47 ⟨[.int .u16, .int .u16], [.int .u16], g47⟩) : p20_E.Ok Go.Proofs.Try.prog := AE.of_ok (all_cons ty22_ok (all_cons ty24_ok (all_cons ty48_ok all_nil))) (all_cons ⟨he37, enters37⟩ (all_cons ⟨he46, enters46⟩ (all_cons ⟨he47, enters47⟩ all_nil)))
theorem p20_ok (he37 : SigOk Go.Proofs.Try.prog 37 ⟨[.xs (.int .u16) 256], [.xs (.int .u16) 256], g37⟩) (he46 : SigOk Go.Proofs.Try.prog 46 ⟨[], [.xs (.int .u16) 128], g46⟩) (he47 : SigOk Go.Proofs.Try.prog 47 ⟨[.int .u16, .int .u16], [.int .u16], g47⟩) {g : Ds [.xs (.int .u16) 256, .xs (.int .u16) 256] → Option (Rs [.xs (.int .u16) 256])} (hg : ∀ x r, g x = some r → ∃ N, p20 N x = some r) : SigOk Go.Proofs.Try.prog 20 ⟨[.xs (.int .u16) 256, .xs (.int .u16) 256], [.xs (.int .u16) 256], g⟩ :=
  fun_of (E := p20_E) (H := p20_H) (L := fun N => p20_l5_L N) (c := p20_c) (ks := p20_ks) (rs := p20_rs) (F := p20) (p20_Eok he37 he46 he47) mix Go.Proofs.Try.func20 (by kernel_rfl) (fun N => p20_l5_ok N) p20_eq hg

/-! livery/liveryref13.MulNtt -/
noncomputable def p21_E : AE := AE.of [(3, ty3), (22, ty22), (24, ty24)] [(48, ⟨[.int .i64], [.int .i64], g48⟩)]
noncomputable def p21_H : Hints := [(3, [2, 3, 4, 5, 11]), (2000000, [4, 5]), (2000001, [2, 3, 4, 5, 11]), (3000000, [4])]
noncomputable def p21_c : Code := (Go.Proofs.Try.f21).body.getD .skip
noncomputable def p21_l3_S : Shape where
  h := { tmps := [.any, .any, .sc (.ptr 0 0 false), .sc (.ptr 1 0 false), .sc (.ptr 2 0 false), .sc (.ptr 3 0 false), .any, .any, .any, .any, .any, .sc (.int .i64), .any, .any, .any, .any, .any, .any, .any, .any, .any, .any, .any, .any, .any, .any, .any, .any, .any, .any, .any, .any, .any, .any, .any, .any, .any, .any, .any, .any, .any, .any, .any, .any, .any, .any, .any, .any, .any, .any, .any, .any, .any, .any, .any, .any, .any, .any, .any, .any, .any, .any, .any, .any, .any, .any, .any, .any, .any, .any, .any], mem := [.live [.xs (.int .u16) (some 256)] true, .live [.xs (.int .u16) (some 256)] true, .live [.xs (.int .u16) (some 256)] true, .live [.xs (.int .u16) (some 256)] true] }
  ks := [.int, .xs, .xs, .xs, .xs]
  st := fun x => { tmps := [.one .any, .one .any, .one (.sc (.ptr 0 0 none)), .one (.sc (.ptr 1 0 none)), .one (.sc (.ptr 2 0 none)), .one (.sc (.ptr 3 0 none)), .one .any, .one .any, .one .any, .one .any, .one .any, .one (.sc (.int .i64 x.1)), .one .any, .one .any, .one .any, .one .any, .one .any, .one .any, .one .any, .one .any, .one .any, .one .any, .one .any, .one .any, .one .any, .one .any, .one .any, .one .any, .one .any, .one .any, .one .any, .one .any, .one .any, .one .any, .one .any, .one .any, .one .any, .one .any, .one .any, .one .any, .one .any, .one .any, .one .any, .one .any, .one .any, .one .any, .one .any, .one .any, .one .any, .one .any, .one .any, .one .any, .one .any, .one .any, .one .any, .one .any, .one .any, .one .any, .one .any, .one .any, .one .any, .one .any, .one .any, .one .any, .one .any, .one .any, .one .any, .one .any, .one .any, .one .any, .one .any], mem := [.live { segs := [.xs (.int .u16) 256 x.2.1], own := true }, .live { segs := [.xs (.int .u16) 256 x.2.2.1], own := true }, .live { segs := [.xs (.int .u16) 256 x.2.2.2.1], own := true }, .live { segs := [.xs (.int .u16) 256 x.2.2.2.2.1], own := true }] }
noncomputable def p21_l3_F (N : Nat) (β : Type) (x : (Int × List Int × List Int × List Int × List Int × Unit)) (kn : (Int × List Int × List Int × List Int × List Int × Unit) → Option β) (ke : ((List Int × List Int × Unit)) → Option β) : Option β :=
  if (x.1 < (128:Int)) then
    if 0 ≤ (IntKind.i64.wrap ((2:Int) * x.1)) then (
    if (IntKind.i64.wrap ((2:Int) * x.1)) < 256 then (
    if ((IntKind.i64.wrap ((2:Int) * x.1)).toNat) < 256 then (
    if 0 ≤ (IntKind.i64.wrap ((IntKind.i64.wrap ((2:Int) * x.1)) + (1:Int))) then (
    if (IntKind.i64.wrap ((IntKind.i64.wrap ((2:Int) * x.1)) + (1:Int))) < 256 then (
    if ((IntKind.i64.wrap ((IntKind.i64.wrap ((2:Int) * x.1)) + (1:Int))).toNat) < 256 then (
    if 0 ≤ (IntKind.i64.wrap ((2:Int) * x.1)) then (
    if (IntKind.i64.wrap ((2:Int) * x.1)) < 256 then (
    if ((IntKind.i64.wrap ((2:Int) * x.1)).toNat) < 256 then (
    if 0 ≤ (IntKind.i64.wrap ((IntKind.i64.wrap ((2:Int) * x.1)) + (1:Int))) then (
    if (IntKind.i64.wrap ((IntKind.i64.wrap ((2:Int) * x.1)) + (1:Int))) < 256 then (
    if ((IntKind.i64.wrap ((IntKind.i64.wrap ((2:Int) * x.1)) + (1:Int))).toNat) < 256 then (
    (g48 (x.1, ())).bind fun r1 => (
    if 0 ≤ (IntKind.i64.wrap ((2:Int) * x.1)) then (
    if (IntKind.i64.wrap ((2:Int) * x.1)) < 256 then (
    if ((IntKind.i64.wrap ((2:Int) * x.1)).toNat) < 256 then (
    if 0 ≤ (IntKind.i64.wrap ((IntKind.i64.wrap ((2:Int) * x.1)) + (1:Int))) then (
    if (IntKind.i64.wrap ((IntKind.i64.wrap ((2:Int) * x.1)) + (1:Int))) < 256 then (
    if ((IntKind.i64.wrap ((IntKind.i64.wrap ((2:Int) * x.1)) + (1:Int))).toNat) < 256 then (
    kn ((IntKind.i64.wrap (x.1 + (1:Int))), x.2.1, x.2.2.1, x.2.2.2.1, (List.set (List.set x.2.2.2.2.1 ((IntKind.i64.wrap ((2:Int) * x.1)).toNat) (IntKind.u16.wrap (Int.tmod (IntKind.i64.wrap ((IntKind.i64.wrap ((IntKind.i64.wrap (Int.tmod (List.getD x.2.1 ((IntKind.i64.wrap ((2:Int) * x.1)).toNat) 0) (3329:Int))) * (IntKind.i64.wrap (Int.tmod (List.getD x.2.2.1 ((IntKind.i64.wrap ((2:Int) * x.1)).toNat) 0) (3329:Int))))) + (IntKind.i64.wrap ((Int.tmod (IntKind.i64.wrap ((IntKind.i64.wrap (Int.tmod (List.getD x.2.1 ((IntKind.i64.wrap ((IntKind.i64.wrap ((2:Int) * x.1)) + (1:Int))).toNat) 0) (3329:Int))) * (IntKind.i64.wrap (Int.tmod (List.getD x.2.2.1 ((IntKind.i64.wrap ((IntKind.i64.wrap ((2:Int) * x.1)) + (1:Int))).toNat) 0) (3329:Int))))) (3329:Int)) * r1)))) (3329:Int)))) ((IntKind.i64.wrap ((IntKind.i64.wrap ((2:Int) * x.1)) + (1:Int))).toNat) (IntKind.u16.wrap (Int.tmod (IntKind.i64.wrap ((IntKind.i64.wrap ((IntKind.i64.wrap (Int.tmod (List.getD x.2.1 ((IntKind.i64.wrap ((2:Int) * x.1)).toNat) 0) (3329:Int))) * (IntKind.i64.wrap (Int.tmod (List.getD x.2.2.1 ((IntKind.i64.wrap ((IntKind.i64.wrap ((2:Int) * x.1)) + (1:Int))).toNat) 0) (3329:Int))))) + (IntKind.i64.wrap ((IntKind.i64.wrap (Int.tmod (List.getD x.2.1 ((IntKind.i64.wrap ((IntKind.i64.wrap ((2:Int) * x.1)) + (1:Int))).toNat) 0) (3329:Int))) * (IntKind.i64.wrap (Int.tmod (List.getD x.2.2.1 ((IntKind.i64.wrap ((2:Int) * x.1)).toNat) 0) (3329:Int))))))) (3329:Int)))), ())) else none) else none) else none) else none) else none) else none)) else none) else none) else none) else none) else none) else none) else none) else none) else none) else none) else none) else none
  else
    ke (x.2.2.2.1, x.2.2.2.2.1, ())
noncomputable def p21_l3_go : Go' ((List Int × List Int × Unit)) := fun y K => K (.exit 0) { tmps := [.one .any, .one .any, .one .any, .one .any, .one (.sc (.ptr 0 0 none)), .one (.sc (.ptr 1 0 none)), .one .any, .one .any, .one .any, .one .any, .one .any, .one .any, .one .any, .one .any, .one .any, .one .any, .one .any, .one .any, .one .any, .one .any, .one .any, .one .any, .one .any, .one .any, .one .any, .one .any, .one .any, .one .any, .one .any, .one .any, .one .any, .one .any, .one .any, .one .any, .one .any, .one .any, .one .any, .one .any, .one .any, .one .any, .one .any, .one .any, .one .any, .one .any, .one .any, .one .any, .one .any, .one .any, .one .any, .one .any, .one .any, .one .any, .one .any, .one .any, .one .any, .one .any, .one .any, .one .any, .one .any, .one .any, .one .any, .one .any, .one .any, .one .any, .one .any, .one .any, .one .any, .one .any, .one .any, .one .any, .one .any], mem := [.live { segs := [.xs (.int .u16) 256 y.1], own := true }, .live { segs := [.xs (.int .u16) 256 y.2.1], own := true }] }
noncomputable def p21_l3_L (N : Nat) : LT := upd (LT.nil) 3 (loopE p21_l3_S N (p21_l3_F N) p21_l3_go)
theorem p21_l3_ok (N : Nat) : OkAll p21_E p21_H N (p21_l3_L N) (subs p21_c) :=
  addLoop (c := theLoop 3 p21_c) (OkAll.nil) (by kernel_rfl) (fun x => by kernel_rfl) (fun β x kn ke => by kernel_rfl)
abbrev p21_ks : List Kd := [.xs (.int .u16) 256, .xs (.int .u16) 256]
abbrev p21_rs : List Kd := [.xs (.int .u16) 256]
noncomputable def p21 (N : Nat) (x : List Int × List Int × Unit) : Option (List Int) :=
  iter (p21_l3_F N) N ((0:Int), x.1, x.2.1, (List.replicate 256 0), (List.replicate 256 0), ()) fun y2 => (
  some y2.2.1)
theorem p21_eq (N : Nat) (x : Ds [.xs (.int .u16) 256, .xs (.int .u16) 256]) : funL p21_E p21_H (p21_l3_L N) N Go.Proofs.Try.f21 p21_c [.xs (.int .u16) 256, .xs (.int .u16) 256] [.xs (.int .u16) 256] x = p21 N x := by kernel_rfl
theorem p21_Eok (he48 : SigOk Go.Proofs.Try.prog 48 ⟨[.int .i64], [.int .i64], g48⟩) : p21_E.Ok Go.Proofs.Try.prog := AE.of_ok (all_cons ty3_ok (all_cons ty22_ok (all_cons ty24_ok all_nil))) (all_cons ⟨he48, enters48⟩ all_nil)
theorem p21_ok (he48 : SigOk Go.Proofs.Try.prog 48 ⟨[.int .i64], [.int .i64], g48⟩) {g : Ds [.xs (.int .u16) 256, .xs (.int .u16) 256] → Option (Rs [.xs (.int .u16) 256])} (hg : ∀ x r, g x = some r → ∃ N, p21 N x = some r) : SigOk Go.Proofs.Try.prog 21 ⟨[.xs (.int .u16) 256, .xs (.int .u16) 256], [.xs (.int .u16) 256], g⟩ :=
  fun_of (E := p21_E) (H := p21_H) (L := fun N => p21_l3_L N) (c := p21_c) (ks := p21_ks) (rs := p21_rs) (F := p21) (p21_Eok he48) mix Go.Proofs.Try.func21 (by kernel_rfl) (fun N => p21_l3_ok N) p21_eq hg

/-! livery/liveryref13.Root -/
noncomputable def p48_E : AE := AE.of [] [(59, ⟨[.int .i64], [.int .i64], g59⟩), (51, ⟨[.int .i64, .int .i64], [.int .i64], g51⟩)]
noncomputable def p48_H : Hints := [(3000000, [2])]
noncomputable def p48_c : Code := (Go.Proofs.Try.f48).body.getD .skip
abbrev p48_ks : List Kd := [.int .i64]
abbrev p48_rs : List Kd := [.int .i64]
noncomputable def p48 (N : Nat) (x : Int × Unit) : Option (Int) :=
  (g59 (x.1, ())).bind fun r1 => (
  (g51 ((17:Int), (IntKind.i64.wrap ((IntKind.i64.wrap ((2:Int) * r1)) + (1:Int))), ())).bind fun r2 => (
  some r2))
theorem p48_eq (N : Nat) (x : Ds [.int .i64]) : funL p48_E p48_H (LT.nil) N Go.Proofs.Try.f48 p48_c [.int .i64] [.int .i64] x = p48 N x := by kernel_rfl
theorem p48_Eok (he59 : SigOk Go.Proofs.Try.prog 59 ⟨[.int .i64], [.int .i64], g59⟩) (he51 : SigOk Go.Proofs.Try.prog 51 ⟨[.int .i64, .int .i64], [.int .i64], g51⟩) : p48_E.Ok Go.Proofs.Try.prog := AE.of_ok all_nil (all_cons ⟨he59, enters59⟩ (all_cons ⟨he51, enters51⟩ all_nil))
theorem p48_ok (he59 : SigOk Go.Proofs.Try.prog 59 ⟨[.int .i64], [.int .i64], g59⟩) (he51 : SigOk Go.Proofs.Try.prog 51 ⟨[.int .i64, .int .i64], [.int .i64], g51⟩) {g : Ds [.int .i64] → Option (Rs [.int .i64])} (hg : ∀ x r, g x = some r → ∃ N, p48 N x = some r) : SigOk Go.Proofs.Try.prog 48 ⟨[.int .i64], [.int .i64], g⟩ :=
  fun_of (E := p48_E) (H := p48_H) (L := fun N => LT.nil) (c := p48_c) (ks := p48_ks) (rs := p48_rs) (F := p48) (p48_Eok he59 he51) mix Go.Proofs.Try.func48 (by kernel_rfl) (fun N => OkAll.nil) p48_eq hg

/-! livery/liveryref13.power -/
noncomputable def p51_E : AE := AE.of [] []
noncomputable def p51_H : Hints := [(3, [0, 5, 6, 7]), (2000000, [5]), (2000001, [0, 5, 6, 7]), (3000000, [4])]
noncomputable def p51_c : Code := (Go.Proofs.Try.f51).body.getD .skip
noncomputable def p51_l3_S : Shape where
  h := { tmps := [.sc (.int .i64), .any, .any, .any, .any, .sc (.int .i64), .sc (.int .i64), .sc (.int .i64), .any, .any, .any, .any, .any, .any, .any], mem := [] }
  ks := [.int, .int, .int, .int]
  st := fun x => { tmps := [.one (.sc (.int .i64 x.1)), .one .any, .one .any, .one .any, .one .any, .one (.sc (.int .i64 x.2.1)), .one (.sc (.int .i64 x.2.2.1)), .one (.sc (.int .i64 x.2.2.2.1)), .one .any, .one .any, .one .any, .one .any, .one .any, .one .any, .one .any], mem := [] }
noncomputable def p51_l3_F (N : Nat) (β : Type) (x : (Int × Int × Int × Int × Unit)) (kn : (Int × Int × Int × Int × Unit) → Option β) (ke : ((Int × Unit)) → Option β) : Option β :=
  if (x.2.2.2.1 < x.2.2.1) then
    kn (x.1, (Int.tmod (IntKind.i64.wrap (x.2.1 * x.1)) (3329:Int)), x.2.2.1, (IntKind.i64.wrap (x.2.2.2.1 + (1:Int))), ())
  else
    ke (x.2.1, ())
noncomputable def p51_l3_go : Go' ((Int × Unit)) := fun y K => K (.exit 0) { tmps := [.one .any, .one .any, .one .any, .one .any, .one .any, .one (.sc (.int .i64 y.1)), .one .any, .one .any, .one .any, .one .any, .one .any, .one .any, .one .any, .one .any, .one .any], mem := [] }
noncomputable def p51_l3_L (N : Nat) : LT := upd (LT.nil) 3 (loopE p51_l3_S N (p51_l3_F N) p51_l3_go)
theorem p51_l3_ok (N : Nat) : OkAll p51_E p51_H N (p51_l3_L N) (subs p51_c) :=
  addLoop (c := theLoop 3 p51_c) (OkAll.nil) (by kernel_rfl) (fun x => by kernel_rfl) (fun β x kn ke => by kernel_rfl)
abbrev p51_ks : List Kd := [.int .i64, .int .i64]
abbrev p51_rs : List Kd := [.int .i64]
noncomputable def p51 (N : Nat) (x : Int × Int × Unit) : Option (Int) :=
  iter (p51_l3_F N) N (x.1, (1:Int), x.2.1, (0:Int), ()) fun y1 => (
  some y1.1)
theorem p51_eq (N : Nat) (x : Ds [.int .i64, .int .i64]) : funL p51_E p51_H (p51_l3_L N) N Go.Proofs.Try.f51 p51_c [.int .i64, .int .i64] [.int .i64] x = p51 N x := by kernel_rfl
theorem p51_Eok : p51_E.Ok Go.Proofs.Try.prog := AE.of_ok all_nil all_nil
theorem p51_ok {g : Ds [.int .i64, .int .i64] → Option (Rs [.int .i64])} (hg : ∀ x r, g x = some r → ∃ N, p51 N x = some r) : SigOk Go.Proofs.Try.prog 51 ⟨[.int .i64, .int .i64], [.int .i64], g⟩ :=
  fun_of (E := p51_E) (H := p51_H) (L := fun N => p51_l3_L N) (c := p51_c) (ks := p51_ks) (rs := p51_rs) (F := p51) (p51_Eok) mix Go.Proofs.Try.func51 (by kernel_rfl) (fun N => p51_l3_ok N) p51_eq hg

/-! livery/liveryref13.rev -/
noncomputable def p59_E : AE := AE.of [] []
noncomputable def p59_H : Hints := [(3, [0, 3, 4]), (2000000, [3]), (2000001, [0, 3, 4]), (3000000, [2])]
noncomputable def p59_c : Code := (Go.Proofs.Try.f59).body.getD .skip
noncomputable def p59_l3_S : Shape where
  h := { tmps := [.sc (.int .i64), .any, .any, .sc (.int .i64), .sc (.int .i64), .any, .any, .any, .any, .any, .any, .any, .any, .any, .any], mem := [] }
  ks := [.int, .int, .int]
  st := fun x => { tmps := [.one (.sc (.int .i64 x.1)), .one .any, .one .any, .one (.sc (.int .i64 x.2.1)), .one (.sc (.int .i64 x.2.2.1)), .one .any, .one .any, .one .any, .one .any, .one .any, .one .any, .one .any, .one .any, .one .any, .one .any], mem := [] }
noncomputable def p59_l3_F (N : Nat) (β : Type) (x : (Int × Int × Int × Unit)) (kn : (Int × Int × Int × Unit) → Option β) (ke : ((Int × Unit)) → Option β) : Option β :=
  if (x.2.2.1 < (7:Int)) then
    kn ((IntKind.i64.wrap (Int.tdiv x.1 (2:Int))), (IntKind.i64.wrap ((IntKind.i64.wrap ((2:Int) * x.2.1)) + (Int.tmod x.1 (2:Int)))), (IntKind.i64.wrap (x.2.2.1 + (1:Int))), ())
  else
    ke (x.2.1, ())
noncomputable def p59_l3_go : Go' ((Int × Unit)) := fun y K => K (.exit 0) { tmps := [.one .any, .one .any, .one .any, .one (.sc (.int .i64 y.1)), .one .any, .one .any, .one .any, .one .any, .one .any, .one .any, .one .any, .one .any, .one .any, .one .any, .one .any], mem := [] }
noncomputable def p59_l3_L (N : Nat) : LT := upd (LT.nil) 3 (loopE p59_l3_S N (p59_l3_F N) p59_l3_go)
theorem p59_l3_ok (N : Nat) : OkAll p59_E p59_H N (p59_l3_L N) (subs p59_c) :=
  addLoop (c := theLoop 3 p59_c) (OkAll.nil) (by kernel_rfl) (fun x => by kernel_rfl) (fun β x kn ke => by kernel_rfl)
abbrev p59_ks : List Kd := [.int .i64]
abbrev p59_rs : List Kd := [.int .i64]
noncomputable def p59 (N : Nat) (x : Int × Unit) : Option (Int) :=
  iter (p59_l3_F N) N (x.1, (0:Int), (0:Int), ()) fun y1 => (
  some y1.1)
theorem p59_eq (N : Nat) (x : Ds [.int .i64]) : funL p59_E p59_H (p59_l3_L N) N Go.Proofs.Try.f59 p59_c [.int .i64] [.int .i64] x = p59 N x := by kernel_rfl
theorem p59_Eok : p59_E.Ok Go.Proofs.Try.prog := AE.of_ok all_nil all_nil
theorem p59_ok {g : Ds [.int .i64] → Option (Rs [.int .i64])} (hg : ∀ x r, g x = some r → ∃ N, p59 N x = some r) : SigOk Go.Proofs.Try.prog 59 ⟨[.int .i64], [.int .i64], g⟩ :=
  fun_of (E := p59_E) (H := p59_H) (L := fun N => p59_l3_L N) (c := p59_c) (ks := p59_ks) (rs := p59_rs) (F := p59) (p59_Eok) mix Go.Proofs.Try.func59 (by kernel_rfl) (fun N => p59_l3_ok N) p59_eq hg
end Go.Ax.TryP
