/- A part of the proof: DringP1. -/
import Derived.Test.YtnokmgclkediiaaDringS1
/-! Printed by program (gen.py). -/
set_option linter.unusedVariables false
namespace Go.Ax.TryP
/-! livery/dring.below -/
noncomputable def p_dring_below_E : AE := AE.of [(2, ty2), (21, ty21)] []
noncomputable def p_dring_below_H : Hints := [(3000000, [2])]
noncomputable def p_dring_below_c : Code := (Go.Proofs.Try.f59).body.getD .skip
abbrev p_dring_below_ks : List Kd := [.int .i64]
abbrev p_dring_below_rs : List Kd := [.int .i32]
noncomputable def p_dring_below (N : Nat) (x : Int × Unit) : Option (Int) :=
  if ((Int.tmod x.1 (8380417:Int)) < (0:Int)) then
    some (IntKind.i32.wrap (IntKind.i64.wrap ((Int.tmod x.1 (8380417:Int)) + (8380417:Int))))
  else
    some (IntKind.i32.wrap (Int.tmod x.1 (8380417:Int)))
theorem p_dring_below_eq (N : Nat) (x : Ds [.int .i64]) : funL p_dring_below_E p_dring_below_H (LT.nil) N Go.Proofs.Try.f59 p_dring_below_c [.int .i64] [.int .i32] x = p_dring_below N x := by kernel_rfl
theorem p_dring_below_Eok : p_dring_below_E.Ok Go.Proofs.Try.prog := AE.of_ok (all_cons ty2_ok (all_cons ty21_ok all_nil)) all_nil
theorem p_dring_below_ok {g : Ds [.int .i64] → Option (Rs [.int .i32])} (hg : ∀ x r, g x = some r → ∃ N, p_dring_below N x = some r) : SigOk Go.Proofs.Try.prog 59 ⟨[.int .i64], [.int .i32], g⟩ :=
  fun_of (E := p_dring_below_E) (H := p_dring_below_H) (L := fun N => LT.nil) (c := p_dring_below_c) (ks := p_dring_below_ks) (rs := p_dring_below_rs) (F := p_dring_below) (p_dring_below_Eok) mix Go.Proofs.Try.func59 (by kernel_rfl) (fun N => OkAll.nil) p_dring_below_eq hg

/-! livery/dring.Reduce$1 -/
noncomputable def p_dring_Reduce_1_E : AE := AE.of [(2, ty2), (21, ty21)] [(59, ⟨[.int .i64], [.int .i32], g_dring_below⟩)]
noncomputable def p_dring_Reduce_1_H : Hints := [(3000000, [2])]
noncomputable def p_dring_Reduce_1_c : Code := (Go.Proofs.Try.f58).body.getD .skip
abbrev p_dring_Reduce_1_ks : List Kd := [.int .i32]
abbrev p_dring_Reduce_1_rs : List Kd := [.int .i32]
noncomputable def p_dring_Reduce_1 (N : Nat) (x : Int × Unit) : Option (Int) :=
  (g_dring_below ((IntKind.i64.wrap x.1), ())).bind fun r1 => (
  some r1)
theorem p_dring_Reduce_1_eq (N : Nat) (x : Ds [.int .i32]) : funL p_dring_Reduce_1_E p_dring_Reduce_1_H (LT.nil) N Go.Proofs.Try.f58 p_dring_Reduce_1_c [.int .i32] [.int .i32] x = p_dring_Reduce_1 N x := by kernel_rfl
theorem p_dring_Reduce_1_Eok (he_dring_below : SigOk Go.Proofs.Try.prog 59 ⟨[.int .i64], [.int .i32], g_dring_below⟩) : p_dring_Reduce_1_E.Ok Go.Proofs.Try.prog := AE.of_ok (all_cons ty2_ok (all_cons ty21_ok all_nil)) (all_cons ⟨he_dring_below, enters_dring_below⟩ all_nil)
theorem p_dring_Reduce_1_ok (he_dring_below : SigOk Go.Proofs.Try.prog 59 ⟨[.int .i64], [.int .i32], g_dring_below⟩) {g : Ds [.int .i32] → Option (Rs [.int .i32])} (hg : ∀ x r, g x = some r → ∃ N, p_dring_Reduce_1 N x = some r) : SigOk Go.Proofs.Try.prog 58 ⟨[.int .i32], [.int .i32], g⟩ :=
  fun_of (E := p_dring_Reduce_1_E) (H := p_dring_Reduce_1_H) (L := fun N => LT.nil) (c := p_dring_Reduce_1_c) (ks := p_dring_Reduce_1_ks) (rs := p_dring_Reduce_1_rs) (F := p_dring_Reduce_1) (p_dring_Reduce_1_Eok he_dring_below) mix Go.Proofs.Try.func58 (by kernel_rfl) (fun N => OkAll.nil) p_dring_Reduce_1_eq hg

/-! livery/dring.each -/
noncomputable def p_dring_each__dring_Reduce_1_E : AE := AE.of [(21, ty21), (23, ty23)] [(58, ⟨[.int .i32], [.int .i32], g_dring_Reduce_1⟩)]
noncomputable def p_dring_each__dring_Reduce_1_H : Hints := [(2, [1, 2, 4, 7, 8]), (2000000, [2, 4]), (2000001, [1, 2, 4, 7, 8]), (3000000, [4])]
noncomputable def p_dring_each__dring_Reduce_1_c : Code := (Go.Proofs.Try.f57).body.getD .skip
noncomputable def p_dring_each__dring_Reduce_1_l2_S : Shape where
  h := { tmps := [.any, .sc (.fn 58), .sc (.ptr 0 0 false), .any, .sc (.ptr 1 0 false), .any, .any, .agg [.xs (.int .i32) (some 256)], .sc (.int .i64), .any, .any, .any, .any, .any, .any, .any, .any, .any, .any], mem := [.live [.xs (.int .i32) (some 256)] true, .live [.xs (.int .i32) (some 256)] true] }
  ks := [.xs, .int, .xs, .xs]
  st := fun x => { tmps := [.one .any, .one (.sc (.fn 58)), .one (.sc (.ptr 0 0 none)), .one .any, .one (.sc (.ptr 1 0 none)), .one .any, .one .any, .one (.agg [.xs (.int .i32) 256 x.1]), .one (.sc (.int .i64 x.2.1)), .one .any, .one .any, .one .any, .one .any, .one .any, .one .any, .one .any, .one .any, .one .any, .one .any], mem := [.live { segs := [.xs (.int .i32) 256 x.2.2.1], own := true }, .live { segs := [.xs (.int .i32) 256 x.2.2.2.1], own := true }] }
noncomputable def p_dring_each__dring_Reduce_1_l2_F (N : Nat) (β : Type) (x : (List Int × Int × List Int × List Int × Unit)) (kn : (List Int × Int × List Int × List Int × Unit) → Option β) (ke : ((List Int × List Int × Unit)) → Option β) : Option β :=
  if (x.2.1 < (256:Int)) then
    if 0 ≤ x.2.1 then (
    if x.2.1 < 256 then (
    if (x.2.1.toNat) < 256 then (
    (g_dring_Reduce_1 ((List.getD x.1 (x.2.1.toNat) 0), ())).bind fun r1 => (
    if 0 ≤ x.2.1 then (
    if x.2.1 < 256 then (
    if (x.2.1.toNat) < 256 then (
    kn (x.1, (IntKind.i64.wrap (x.2.1 + (1:Int))), (List.set x.2.2.1 (x.2.1.toNat) r1), x.2.2.2.1, ())) else none) else none) else none)) else none) else none) else none
  else
    ke (x.2.2.1, x.2.2.2.1, ())
noncomputable def p_dring_each__dring_Reduce_1_l2_go : Go' ((List Int × List Int × Unit)) := fun y K => K (.exit 0) { tmps := [.one .any, .one .any, .one (.sc (.ptr 0 0 none)), .one .any, .one (.sc (.ptr 1 0 none)), .one .any, .one .any, .one .any, .one .any, .one .any, .one .any, .one .any, .one .any, .one .any, .one .any, .one .any, .one .any, .one .any, .one .any], mem := [.live { segs := [.xs (.int .i32) 256 y.1], own := true }, .live { segs := [.xs (.int .i32) 256 y.2.1], own := true }] }
noncomputable def p_dring_each__dring_Reduce_1_l2_L (N : Nat) : LT := upd (LT.nil) 2 (loopE p_dring_each__dring_Reduce_1_l2_S N (p_dring_each__dring_Reduce_1_l2_F N) p_dring_each__dring_Reduce_1_l2_go)
theorem p_dring_each__dring_Reduce_1_l2_ok (N : Nat) : OkAll p_dring_each__dring_Reduce_1_E p_dring_each__dring_Reduce_1_H N (p_dring_each__dring_Reduce_1_l2_L N) (subs p_dring_each__dring_Reduce_1_c) :=
  addLoop (c := theLoop 2 p_dring_each__dring_Reduce_1_c) (OkAll.nil) (by kernel_rfl) (fun x => by kernel_rfl) (fun β x kn ke => by kernel_rfl)
abbrev p_dring_each__dring_Reduce_1_ks : List Kd := [.xs (.int .i32) 256, .fnc 58]
abbrev p_dring_each__dring_Reduce_1_rs : List Kd := [.xs (.int .i32) 256]
noncomputable def p_dring_each__dring_Reduce_1 (N : Nat) (x : List Int × Unit × Unit) : Option (List Int) :=
  iter (p_dring_each__dring_Reduce_1_l2_F N) N (x.1, (0:Int), x.1, (List.replicate 256 0), ()) fun y2 => (
  some y2.1)
theorem p_dring_each__dring_Reduce_1_eq (N : Nat) (x : Ds [.xs (.int .i32) 256, .fnc 58]) : funL p_dring_each__dring_Reduce_1_E p_dring_each__dring_Reduce_1_H (p_dring_each__dring_Reduce_1_l2_L N) N Go.Proofs.Try.f57 p_dring_each__dring_Reduce_1_c [.xs (.int .i32) 256, .fnc 58] [.xs (.int .i32) 256] x = p_dring_each__dring_Reduce_1 N x := by kernel_rfl
theorem p_dring_each__dring_Reduce_1_Eok (he_dring_Reduce_1 : SigOk Go.Proofs.Try.prog 58 ⟨[.int .i32], [.int .i32], g_dring_Reduce_1⟩) : p_dring_each__dring_Reduce_1_E.Ok Go.Proofs.Try.prog := AE.of_ok (all_cons ty21_ok (all_cons ty23_ok all_nil)) (all_cons ⟨he_dring_Reduce_1, enters_dring_Reduce_1⟩ all_nil)
theorem p_dring_each__dring_Reduce_1_ok (he_dring_Reduce_1 : SigOk Go.Proofs.Try.prog 58 ⟨[.int .i32], [.int .i32], g_dring_Reduce_1⟩) {g : Ds [.xs (.int .i32) 256, .fnc 58] → Option (Rs [.xs (.int .i32) 256])} (hg : ∀ x r, g x = some r → ∃ N, p_dring_each__dring_Reduce_1 N x = some r) : SigOk Go.Proofs.Try.prog 57 ⟨[.xs (.int .i32) 256, .fnc 58], [.xs (.int .i32) 256], g⟩ :=
  fun_of (E := p_dring_each__dring_Reduce_1_E) (H := p_dring_each__dring_Reduce_1_H) (L := fun N => p_dring_each__dring_Reduce_1_l2_L N) (c := p_dring_each__dring_Reduce_1_c) (ks := p_dring_each__dring_Reduce_1_ks) (rs := p_dring_each__dring_Reduce_1_rs) (F := p_dring_each__dring_Reduce_1) (p_dring_each__dring_Reduce_1_Eok he_dring_Reduce_1) mix Go.Proofs.Try.func57 (by kernel_rfl) (fun N => p_dring_each__dring_Reduce_1_l2_ok N) p_dring_each__dring_Reduce_1_eq hg

/-! livery/dring.Reduce -/
noncomputable def p_dring_Reduce_E : AE := AE.of [(23, ty23)] [(57, ⟨[.xs (.int .i32) 256, .fnc 58], [.xs (.int .i32) 256], g_dring_each__dring_Reduce_1⟩)]
noncomputable def p_dring_Reduce_H : Hints := [(3000000, [2])]
noncomputable def p_dring_Reduce_c : Code := (Go.Proofs.Try.f18).body.getD .skip
abbrev p_dring_Reduce_ks : List Kd := [.xs (.int .i32) 256]
abbrev p_dring_Reduce_rs : List Kd := [.xs (.int .i32) 256]
noncomputable def p_dring_Reduce (N : Nat) (x : List Int × Unit) : Option (List Int) :=
  (g_dring_each__dring_Reduce_1 (x.1, (), ())).bind fun r1 => (
  some r1)
theorem p_dring_Reduce_eq (N : Nat) (x : Ds [.xs (.int .i32) 256]) : funL p_dring_Reduce_E p_dring_Reduce_H (LT.nil) N Go.Proofs.Try.f18 p_dring_Reduce_c [.xs (.int .i32) 256] [.xs (.int .i32) 256] x = p_dring_Reduce N x := by kernel_rfl
theorem p_dring_Reduce_Eok (he_dring_each__dring_Reduce_1 : SigOk Go.Proofs.Try.prog 57 ⟨[.xs (.int .i32) 256, .fnc 58], [.xs (.int .i32) 256], g_dring_each__dring_Reduce_1⟩) : p_dring_Reduce_E.Ok Go.Proofs.Try.prog := AE.of_ok (all_cons ty23_ok all_nil) (all_cons ⟨he_dring_each__dring_Reduce_1, enters_dring_each⟩ all_nil)
theorem p_dring_Reduce_ok (he_dring_each__dring_Reduce_1 : SigOk Go.Proofs.Try.prog 57 ⟨[.xs (.int .i32) 256, .fnc 58], [.xs (.int .i32) 256], g_dring_each__dring_Reduce_1⟩) {g : Ds [.xs (.int .i32) 256] → Option (Rs [.xs (.int .i32) 256])} (hg : ∀ x r, g x = some r → ∃ N, p_dring_Reduce N x = some r) : SigOk Go.Proofs.Try.prog 18 ⟨[.xs (.int .i32) 256], [.xs (.int .i32) 256], g⟩ :=
  fun_of (E := p_dring_Reduce_E) (H := p_dring_Reduce_H) (L := fun N => LT.nil) (c := p_dring_Reduce_c) (ks := p_dring_Reduce_ks) (rs := p_dring_Reduce_rs) (F := p_dring_Reduce) (p_dring_Reduce_Eok he_dring_each__dring_Reduce_1) mix Go.Proofs.Try.func18 (by kernel_rfl) (fun N => OkAll.nil) p_dring_Reduce_eq hg

/-! livery/dring.near -/
noncomputable def p_dring_near_E : AE := AE.of [] []
noncomputable def p_dring_near_H : Hints := [(3000000, [4])]
noncomputable def p_dring_near_c : Code := (Go.Proofs.Try.f55).body.getD .skip
abbrev p_dring_near_ks : List Kd := [.int .i32, .int .i32]
abbrev p_dring_near_rs : List Kd := [.int .i32]
noncomputable def p_dring_near (N : Nat) (x : Int × Int × Unit) : Option (Int) :=
  if x.2.1 = 0 then none else (
  if ((Int.tmod x.1 x.2.1) > (IntKind.i32.wrap (Int.tdiv x.2.1 (2:Int)))) then
    some (IntKind.i32.wrap ((Int.tmod x.1 x.2.1) - x.2.1))
  else
    some (Int.tmod x.1 x.2.1))
theorem p_dring_near_eq (N : Nat) (x : Ds [.int .i32, .int .i32]) : funL p_dring_near_E p_dring_near_H (LT.nil) N Go.Proofs.Try.f55 p_dring_near_c [.int .i32, .int .i32] [.int .i32] x = p_dring_near N x := by kernel_rfl
theorem p_dring_near_Eok : p_dring_near_E.Ok Go.Proofs.Try.prog := AE.of_ok all_nil all_nil
theorem p_dring_near_ok {g : Ds [.int .i32, .int .i32] → Option (Rs [.int .i32])} (hg : ∀ x r, g x = some r → ∃ N, p_dring_near N x = some r) : SigOk Go.Proofs.Try.prog 55 ⟨[.int .i32, .int .i32], [.int .i32], g⟩ :=
  fun_of (E := p_dring_near_E) (H := p_dring_near_H) (L := fun N => LT.nil) (c := p_dring_near_c) (ks := p_dring_near_ks) (rs := p_dring_near_rs) (F := p_dring_near) (p_dring_near_Eok) mix Go.Proofs.Try.func55 (by kernel_rfl) (fun N => OkAll.nil) p_dring_near_eq hg

/-! livery/dring.parts -/
noncomputable def p_dring_parts_E : AE := AE.of [(2, ty2), (21, ty21)] [(59, ⟨[.int .i64], [.int .i32], g_dring_below⟩), (55, ⟨[.int .i32, .int .i32], [.int .i32], g_dring_near⟩)]
noncomputable def p_dring_parts_H : Hints := [(3000000, [2, 3])]
noncomputable def p_dring_parts_c : Code := (Go.Proofs.Try.f56).body.getD .skip
abbrev p_dring_parts_ks : List Kd := [.int .i32]
abbrev p_dring_parts_rs : List Kd := [.int .i32, .int .i32]
noncomputable def p_dring_parts (N : Nat) (x : Int × Unit) : Option (Int × Int) :=
  (g_dring_below ((IntKind.i64.wrap x.1), ())).bind fun r1 => (
  (g_dring_near (r1, (523776:Int), ())).bind fun r2 => (
  if ((IntKind.i32.wrap (r1 - r2)) = (8380416:Int)) then
    some ((0:Int), (IntKind.i32.wrap (r2 - (1:Int))))
  else
    some ((IntKind.i32.wrap (Int.tdiv (IntKind.i32.wrap (r1 - r2)) (523776:Int))), r2)))
theorem p_dring_parts_eq (N : Nat) (x : Ds [.int .i32]) : funL p_dring_parts_E p_dring_parts_H (LT.nil) N Go.Proofs.Try.f56 p_dring_parts_c [.int .i32] [.int .i32, .int .i32] x = p_dring_parts N x := by kernel_rfl
theorem p_dring_parts_Eok (he_dring_below : SigOk Go.Proofs.Try.prog 59 ⟨[.int .i64], [.int .i32], g_dring_below⟩) (he_dring_near : SigOk Go.Proofs.Try.prog 55 ⟨[.int .i32, .int .i32], [.int .i32], g_dring_near⟩) : p_dring_parts_E.Ok Go.Proofs.Try.prog := AE.of_ok (all_cons ty2_ok (all_cons ty21_ok all_nil)) (all_cons ⟨he_dring_below, enters_dring_below⟩ (all_cons ⟨he_dring_near, enters_dring_near⟩ all_nil))
theorem p_dring_parts_ok (he_dring_below : SigOk Go.Proofs.Try.prog 59 ⟨[.int .i64], [.int .i32], g_dring_below⟩) (he_dring_near : SigOk Go.Proofs.Try.prog 55 ⟨[.int .i32, .int .i32], [.int .i32], g_dring_near⟩) {g : Ds [.int .i32] → Option (Rs [.int .i32, .int .i32])} (hg : ∀ x r, g x = some r → ∃ N, p_dring_parts N x = some r) : SigOk Go.Proofs.Try.prog 56 ⟨[.int .i32], [.int .i32, .int .i32], g⟩ :=
  fun_of (E := p_dring_parts_E) (H := p_dring_parts_H) (L := fun N => LT.nil) (c := p_dring_parts_c) (ks := p_dring_parts_ks) (rs := p_dring_parts_rs) (F := p_dring_parts) (p_dring_parts_Eok he_dring_below he_dring_near) mix Go.Proofs.Try.func56 (by kernel_rfl) (fun N => OkAll.nil) p_dring_parts_eq hg

/-! livery/dring.Power2Round -/
noncomputable def p_dring_Power2Round_E : AE := AE.of [(21, ty21), (23, ty23)] [(18, ⟨[.xs (.int .i32) 256], [.xs (.int .i32) 256], g_dring_Reduce⟩), (55, ⟨[.int .i32, .int .i32], [.int .i32], g_dring_near⟩)]
noncomputable def p_dring_Power2Round_H : Hints := [(2, [2, 3, 7, 8]), (2000000, [2, 3]), (2000001, [2, 3, 7, 8]), (3000000, [2, 3])]
noncomputable def p_dring_Power2Round_c : Code := (Go.Proofs.Try.f13).body.getD .skip
noncomputable def p_dring_Power2Round_l2_S : Shape where
  h := { tmps := [.any, .any, .sc (.ptr 0 0 false), .sc (.ptr 1 0 false), .any, .any, .any, .agg [.xs (.int .i32) (some 256)], .sc (.int .i64), .any, .any, .any, .any, .any, .any, .any, .any, .any, .any, .any, .any, .any, .any, .any, .any, .any, .any], mem := [.live [.xs (.int .i32) (some 256)] true, .live [.xs (.int .i32) (some 256)] true] }
  ks := [.xs, .int, .xs, .xs]
  st := fun x => { tmps := [.one .any, .one .any, .one (.sc (.ptr 0 0 none)), .one (.sc (.ptr 1 0 none)), .one .any, .one .any, .one .any, .one (.agg [.xs (.int .i32) 256 x.1]), .one (.sc (.int .i64 x.2.1)), .one .any, .one .any, .one .any, .one .any, .one .any, .one .any, .one .any, .one .any, .one .any, .one .any, .one .any, .one .any, .one .any, .one .any, .one .any, .one .any, .one .any, .one .any], mem := [.live { segs := [.xs (.int .i32) 256 x.2.2.1], own := true }, .live { segs := [.xs (.int .i32) 256 x.2.2.2.1], own := true }] }
noncomputable def p_dring_Power2Round_l2_F (N : Nat) (β : Type) (x : (List Int × Int × List Int × List Int × Unit)) (kn : (List Int × Int × List Int × List Int × Unit) → Option β) (ke : ((List Int × List Int × Unit)) → Option β) : Option β :=
  if (x.2.1 < (256:Int)) then
    if 0 ≤ x.2.1 then (
    if x.2.1 < 256 then (
    if (x.2.1.toNat) < 256 then (
    (g_dring_near ((List.getD x.1 (x.2.1.toNat) 0), (8192:Int), ())).bind fun r2 => (
    if 0 ≤ x.2.1 then (
    if x.2.1 < 256 then (
    if (x.2.1.toNat) < 256 then (
    if 0 ≤ x.2.1 then (
    if x.2.1 < 256 then (
    if (x.2.1.toNat) < 256 then (
    if 0 ≤ x.2.1 then (
    if x.2.1 < 256 then (
    if (x.2.1.toNat) < 256 then (
    kn (x.1, (IntKind.i64.wrap (x.2.1 + (1:Int))), (List.set x.2.2.1 (x.2.1.toNat) (ishr IntKind.i32 (IntKind.i32.wrap ((List.getD x.1 (x.2.1.toNat) 0) - (List.getD (List.set x.2.2.2.1 (x.2.1.toNat) r2) (x.2.1.toNat) 0))) (13:Int))), (List.set x.2.2.2.1 (x.2.1.toNat) r2), ())) else none) else none) else none) else none) else none) else none) else none) else none) else none)) else none) else none) else none
  else
    ke (x.2.2.1, x.2.2.2.1, ())
noncomputable def p_dring_Power2Round_l2_go : Go' ((List Int × List Int × Unit)) := fun y K => K (.exit 0) { tmps := [.one .any, .one .any, .one (.sc (.ptr 0 0 none)), .one (.sc (.ptr 1 0 none)), .one .any, .one .any, .one .any, .one .any, .one .any, .one .any, .one .any, .one .any, .one .any, .one .any, .one .any, .one .any, .one .any, .one .any, .one .any, .one .any, .one .any, .one .any, .one .any, .one .any, .one .any, .one .any, .one .any], mem := [.live { segs := [.xs (.int .i32) 256 y.1], own := true }, .live { segs := [.xs (.int .i32) 256 y.2.1], own := true }] }
noncomputable def p_dring_Power2Round_l2_L (N : Nat) : LT := upd (LT.nil) 2 (loopE p_dring_Power2Round_l2_S N (p_dring_Power2Round_l2_F N) p_dring_Power2Round_l2_go)
theorem p_dring_Power2Round_l2_ok (N : Nat) : OkAll p_dring_Power2Round_E p_dring_Power2Round_H N (p_dring_Power2Round_l2_L N) (subs p_dring_Power2Round_c) :=
  addLoop (c := theLoop 2 p_dring_Power2Round_c) (OkAll.nil) (by kernel_rfl) (fun x => by kernel_rfl) (fun β x kn ke => by kernel_rfl)
abbrev p_dring_Power2Round_ks : List Kd := [.xs (.int .i32) 256]
abbrev p_dring_Power2Round_rs : List Kd := [.xs (.int .i32) 256, .xs (.int .i32) 256]
noncomputable def p_dring_Power2Round (N : Nat) (x : List Int × Unit) : Option (List Int × List Int) :=
  (g_dring_Reduce (x.1, ())).bind fun r1 => (
  iter (p_dring_Power2Round_l2_F N) N (r1, (0:Int), (List.replicate 256 0), (List.replicate 256 0), ()) fun y3 => (
  some (y3.1, y3.2.1)))
theorem p_dring_Power2Round_eq (N : Nat) (x : Ds [.xs (.int .i32) 256]) : funL p_dring_Power2Round_E p_dring_Power2Round_H (p_dring_Power2Round_l2_L N) N Go.Proofs.Try.f13 p_dring_Power2Round_c [.xs (.int .i32) 256] [.xs (.int .i32) 256, .xs (.int .i32) 256] x = p_dring_Power2Round N x := by kernel_rfl
theorem p_dring_Power2Round_Eok (he_dring_Reduce : SigOk Go.Proofs.Try.prog 18 ⟨[.xs (.int .i32) 256], [.xs (.int .i32) 256], g_dring_Reduce⟩) (he_dring_near : SigOk Go.Proofs.Try.prog 55 ⟨[.int .i32, .int .i32], [.int .i32], g_dring_near⟩) : p_dring_Power2Round_E.Ok Go.Proofs.Try.prog := AE.of_ok (all_cons ty21_ok (all_cons ty23_ok all_nil)) (all_cons ⟨he_dring_Reduce, enters_dring_Reduce⟩ (all_cons ⟨he_dring_near, enters_dring_near⟩ all_nil))
theorem p_dring_Power2Round_ok (he_dring_Reduce : SigOk Go.Proofs.Try.prog 18 ⟨[.xs (.int .i32) 256], [.xs (.int .i32) 256], g_dring_Reduce⟩) (he_dring_near : SigOk Go.Proofs.Try.prog 55 ⟨[.int .i32, .int .i32], [.int .i32], g_dring_near⟩) {g : Ds [.xs (.int .i32) 256] → Option (Rs [.xs (.int .i32) 256, .xs (.int .i32) 256])} (hg : ∀ x r, g x = some r → ∃ N, p_dring_Power2Round N x = some r) : SigOk Go.Proofs.Try.prog 13 ⟨[.xs (.int .i32) 256], [.xs (.int .i32) 256, .xs (.int .i32) 256], g⟩ :=
  fun_of (E := p_dring_Power2Round_E) (H := p_dring_Power2Round_H) (L := fun N => p_dring_Power2Round_l2_L N) (c := p_dring_Power2Round_c) (ks := p_dring_Power2Round_ks) (rs := p_dring_Power2Round_rs) (F := p_dring_Power2Round) (p_dring_Power2Round_Eok he_dring_Reduce he_dring_near) mix Go.Proofs.Try.func13 (by kernel_rfl) (fun N => p_dring_Power2Round_l2_ok N) p_dring_Power2Round_eq hg

/-! livery/dring.Decompose -/
noncomputable def p_dring_Decompose_E : AE := AE.of [(21, ty21), (23, ty23)] [(56, ⟨[.int .i32], [.int .i32, .int .i32], g_dring_parts⟩)]
noncomputable def p_dring_Decompose_H : Hints := [(2, [2, 3, 6, 7]), (2000000, [2, 3]), (2000001, [2, 3, 6, 7]), (3000000, [2, 3])]
noncomputable def p_dring_Decompose_c : Code := (Go.Proofs.Try.f15).body.getD .skip
noncomputable def p_dring_Decompose_l2_S : Shape where
  h := { tmps := [.any, .any, .sc (.ptr 0 0 false), .sc (.ptr 1 0 false), .any, .any, .agg [.xs (.int .i32) (some 256)], .sc (.int .i64), .any, .any, .any, .any, .any, .any, .any, .any, .any, .any, .any, .any, .any, .any, .any], mem := [.live [.xs (.int .i32) (some 256)] true, .live [.xs (.int .i32) (some 256)] true] }
  ks := [.xs, .int, .xs, .xs]
  st := fun x => { tmps := [.one .any, .one .any, .one (.sc (.ptr 0 0 none)), .one (.sc (.ptr 1 0 none)), .one .any, .one .any, .one (.agg [.xs (.int .i32) 256 x.1]), .one (.sc (.int .i64 x.2.1)), .one .any, .one .any, .one .any, .one .any, .one .any, .one .any, .one .any, .one .any, .one .any, .one .any, .one .any, .one .any, .one .any, .one .any, .one .any], mem := [.live { segs := [.xs (.int .i32) 256 x.2.2.1], own := true }, .live { segs := [.xs (.int .i32) 256 x.2.2.2.1], own := true }] }
noncomputable def p_dring_Decompose_l2_F (N : Nat) (β : Type) (x : (List Int × Int × List Int × List Int × Unit)) (kn : (List Int × Int × List Int × List Int × Unit) → Option β) (ke : ((List Int × List Int × Unit)) → Option β) : Option β :=
  if (x.2.1 < (256:Int)) then
    if 0 ≤ x.2.1 then (
    if x.2.1 < 256 then (
    if (x.2.1.toNat) < 256 then (
    (g_dring_parts ((List.getD x.1 (x.2.1.toNat) 0), ())).bind fun r1 => (
    if 0 ≤ x.2.1 then (
    if x.2.1 < 256 then (
    if (x.2.1.toNat) < 256 then (
    if 0 ≤ x.2.1 then (
    if x.2.1 < 256 then (
    if (x.2.1.toNat) < 256 then (
    kn (x.1, (IntKind.i64.wrap (x.2.1 + (1:Int))), (List.set x.2.2.1 (x.2.1.toNat) r1.1), (List.set x.2.2.2.1 (x.2.1.toNat) r1.2), ())) else none) else none) else none) else none) else none) else none)) else none) else none) else none
  else
    ke (x.2.2.1, x.2.2.2.1, ())
noncomputable def p_dring_Decompose_l2_go : Go' ((List Int × List Int × Unit)) := fun y K => K (.exit 0) { tmps := [.one .any, .one .any, .one (.sc (.ptr 0 0 none)), .one (.sc (.ptr 1 0 none)), .one .any, .one .any, .one .any, .one .any, .one .any, .one .any, .one .any, .one .any, .one .any, .one .any, .one .any, .one .any, .one .any, .one .any, .one .any, .one .any, .one .any, .one .any, .one .any], mem := [.live { segs := [.xs (.int .i32) 256 y.1], own := true }, .live { segs := [.xs (.int .i32) 256 y.2.1], own := true }] }
noncomputable def p_dring_Decompose_l2_L (N : Nat) : LT := upd (LT.nil) 2 (loopE p_dring_Decompose_l2_S N (p_dring_Decompose_l2_F N) p_dring_Decompose_l2_go)
theorem p_dring_Decompose_l2_ok (N : Nat) : OkAll p_dring_Decompose_E p_dring_Decompose_H N (p_dring_Decompose_l2_L N) (subs p_dring_Decompose_c) :=
  addLoop (c := theLoop 2 p_dring_Decompose_c) (OkAll.nil) (by kernel_rfl) (fun x => by kernel_rfl) (fun β x kn ke => by kernel_rfl)
abbrev p_dring_Decompose_ks : List Kd := [.xs (.int .i32) 256]
abbrev p_dring_Decompose_rs : List Kd := [.xs (.int .i32) 256, .xs (.int .i32) 256]
noncomputable def p_dring_Decompose (N : Nat) (x : List Int × Unit) : Option (List Int × List Int) :=
  iter (p_dring_Decompose_l2_F N) N (x.1, (0:Int), (List.replicate 256 0), (List.replicate 256 0), ()) fun y2 => (
  some (y2.1, y2.2.1))
theorem p_dring_Decompose_eq (N : Nat) (x : Ds [.xs (.int .i32) 256]) : funL p_dring_Decompose_E p_dring_Decompose_H (p_dring_Decompose_l2_L N) N Go.Proofs.Try.f15 p_dring_Decompose_c [.xs (.int .i32) 256] [.xs (.int .i32) 256, .xs (.int .i32) 256] x = p_dring_Decompose N x := by kernel_rfl
theorem p_dring_Decompose_Eok (he_dring_parts : SigOk Go.Proofs.Try.prog 56 ⟨[.int .i32], [.int .i32, .int .i32], g_dring_parts⟩) : p_dring_Decompose_E.Ok Go.Proofs.Try.prog := AE.of_ok (all_cons ty21_ok (all_cons ty23_ok all_nil)) (all_cons ⟨he_dring_parts, enters_dring_parts⟩ all_nil)
theorem p_dring_Decompose_ok (he_dring_parts : SigOk Go.Proofs.Try.prog 56 ⟨[.int .i32], [.int .i32, .int .i32], g_dring_parts⟩) {g : Ds [.xs (.int .i32) 256] → Option (Rs [.xs (.int .i32) 256, .xs (.int .i32) 256])} (hg : ∀ x r, g x = some r → ∃ N, p_dring_Decompose N x = some r) : SigOk Go.Proofs.Try.prog 15 ⟨[.xs (.int .i32) 256], [.xs (.int .i32) 256, .xs (.int .i32) 256], g⟩ :=
  fun_of (E := p_dring_Decompose_E) (H := p_dring_Decompose_H) (L := fun N => p_dring_Decompose_l2_L N) (c := p_dring_Decompose_c) (ks := p_dring_Decompose_ks) (rs := p_dring_Decompose_rs) (F := p_dring_Decompose) (p_dring_Decompose_Eok he_dring_parts) mix Go.Proofs.Try.func15 (by kernel_rfl) (fun N => p_dring_Decompose_l2_ok N) p_dring_Decompose_eq hg

/-! livery/liveryref15.mod -/
noncomputable def p_ref15_mod_E : AE := AE.of [] []
noncomputable def p_ref15_mod_H : Hints := [(3000000, [2])]
noncomputable def p_ref15_mod_c : Code := (Go.Proofs.Try.f66).body.getD .skip
abbrev p_ref15_mod_ks : List Kd := [.int .i64]
abbrev p_ref15_mod_rs : List Kd := [.int .i64]
noncomputable def p_ref15_mod (N : Nat) (x : Int × Unit) : Option (Int) :=
  if ((Int.tmod x.1 (8380417:Int)) < (0:Int)) then
    some (IntKind.i64.wrap ((Int.tmod x.1 (8380417:Int)) + (8380417:Int)))
  else
    some (Int.tmod x.1 (8380417:Int))
theorem p_ref15_mod_eq (N : Nat) (x : Ds [.int .i64]) : funL p_ref15_mod_E p_ref15_mod_H (LT.nil) N Go.Proofs.Try.f66 p_ref15_mod_c [.int .i64] [.int .i64] x = p_ref15_mod N x := by kernel_rfl
theorem p_ref15_mod_Eok : p_ref15_mod_E.Ok Go.Proofs.Try.prog := AE.of_ok all_nil all_nil
theorem p_ref15_mod_ok {g : Ds [.int .i64] → Option (Rs [.int .i64])} (hg : ∀ x r, g x = some r → ∃ N, p_ref15_mod N x = some r) : SigOk Go.Proofs.Try.prog 66 ⟨[.int .i64], [.int .i64], g⟩ :=
  fun_of (E := p_ref15_mod_E) (H := p_ref15_mod_H) (L := fun N => LT.nil) (c := p_ref15_mod_c) (ks := p_ref15_mod_ks) (rs := p_ref15_mod_rs) (F := p_ref15_mod) (p_ref15_mod_Eok) mix Go.Proofs.Try.func66 (by kernel_rfl) (fun N => OkAll.nil) p_ref15_mod_eq hg

/-! livery/liveryref15.Reduce -/
noncomputable def p_ref15_Reduce_E : AE := AE.of [(2, ty2), (21, ty21), (23, ty23)] [(66, ⟨[.int .i64], [.int .i64], g_ref15_mod⟩)]
noncomputable def p_ref15_Reduce_H : Hints := [(2, [1, 2, 4]), (2000000, [1, 2]), (2000001, [1, 2, 4]), (3000000, [2])]
noncomputable def p_ref15_Reduce_c : Code := (Go.Proofs.Try.f40).body.getD .skip
noncomputable def p_ref15_Reduce_l2_S : Shape where
  h := { tmps := [.any, .sc (.ptr 0 0 false), .sc (.ptr 1 0 false), .any, .sc (.int .i64), .any, .any, .any, .any, .any, .any, .any, .any, .any, .any, .any, .any], mem := [.live [.xs (.int .i32) (some 256)] true, .live [.xs (.int .i32) (some 256)] true] }
  ks := [.int, .xs, .xs]
  st := fun x => { tmps := [.one .any, .one (.sc (.ptr 0 0 none)), .one (.sc (.ptr 1 0 none)), .one .any, .one (.sc (.int .i64 x.1)), .one .any, .one .any, .one .any, .one .any, .one .any, .one .any, .one .any, .one .any, .one .any, .one .any, .one .any, .one .any], mem := [.live { segs := [.xs (.int .i32) 256 x.2.1], own := true }, .live { segs := [.xs (.int .i32) 256 x.2.2.1], own := true }] }
noncomputable def p_ref15_Reduce_l2_F (N : Nat) (β : Type) (x : (Int × List Int × List Int × Unit)) (kn : (Int × List Int × List Int × Unit) → Option β) (ke : ((List Int × List Int × Unit)) → Option β) : Option β :=
  if (x.1 < (256:Int)) then
    if 0 ≤ x.1 then (
    if x.1 < 256 then (
    if (x.1.toNat) < 256 then (
    (g_ref15_mod ((IntKind.i64.wrap (List.getD x.2.1 (x.1.toNat) 0)), ())).bind fun r1 => (
    if 0 ≤ x.1 then (
    if x.1 < 256 then (
    if (x.1.toNat) < 256 then (
    kn ((IntKind.i64.wrap (x.1 + (1:Int))), (List.set x.2.1 (x.1.toNat) (IntKind.i32.wrap r1)), x.2.2.1, ())) else none) else none) else none)) else none) else none) else none
  else
    ke (x.2.1, x.2.2.1, ())
noncomputable def p_ref15_Reduce_l2_go : Go' ((List Int × List Int × Unit)) := fun y K => K (.exit 0) { tmps := [.one .any, .one (.sc (.ptr 0 0 none)), .one (.sc (.ptr 1 0 none)), .one .any, .one .any, .one .any, .one .any, .one .any, .one .any, .one .any, .one .any, .one .any, .one .any, .one .any, .one .any, .one .any, .one .any], mem := [.live { segs := [.xs (.int .i32) 256 y.1], own := true }, .live { segs := [.xs (.int .i32) 256 y.2.1], own := true }] }
noncomputable def p_ref15_Reduce_l2_L (N : Nat) : LT := upd (LT.nil) 2 (loopE p_ref15_Reduce_l2_S N (p_ref15_Reduce_l2_F N) p_ref15_Reduce_l2_go)
theorem p_ref15_Reduce_l2_ok (N : Nat) : OkAll p_ref15_Reduce_E p_ref15_Reduce_H N (p_ref15_Reduce_l2_L N) (subs p_ref15_Reduce_c) :=
  addLoop (c := theLoop 2 p_ref15_Reduce_c) (OkAll.nil) (by kernel_rfl) (fun x => by kernel_rfl) (fun β x kn ke => by kernel_rfl)
abbrev p_ref15_Reduce_ks : List Kd := [.xs (.int .i32) 256]
abbrev p_ref15_Reduce_rs : List Kd := [.xs (.int .i32) 256]
noncomputable def p_ref15_Reduce (N : Nat) (x : List Int × Unit) : Option (List Int) :=
  iter (p_ref15_Reduce_l2_F N) N ((0:Int), x.1, (List.replicate 256 0), ()) fun y2 => (
  some y2.1)
theorem p_ref15_Reduce_eq (N : Nat) (x : Ds [.xs (.int .i32) 256]) : funL p_ref15_Reduce_E p_ref15_Reduce_H (p_ref15_Reduce_l2_L N) N Go.Proofs.Try.f40 p_ref15_Reduce_c [.xs (.int .i32) 256] [.xs (.int .i32) 256] x = p_ref15_Reduce N x := by kernel_rfl
theorem p_ref15_Reduce_Eok (he_ref15_mod : SigOk Go.Proofs.Try.prog 66 ⟨[.int .i64], [.int .i64], g_ref15_mod⟩) : p_ref15_Reduce_E.Ok Go.Proofs.Try.prog := AE.of_ok (all_cons ty2_ok (all_cons ty21_ok (all_cons ty23_ok all_nil))) (all_cons ⟨he_ref15_mod, enters_ref15_mod⟩ all_nil)
theorem p_ref15_Reduce_ok (he_ref15_mod : SigOk Go.Proofs.Try.prog 66 ⟨[.int .i64], [.int .i64], g_ref15_mod⟩) {g : Ds [.xs (.int .i32) 256] → Option (Rs [.xs (.int .i32) 256])} (hg : ∀ x r, g x = some r → ∃ N, p_ref15_Reduce N x = some r) : SigOk Go.Proofs.Try.prog 40 ⟨[.xs (.int .i32) 256], [.xs (.int .i32) 256], g⟩ :=
  fun_of (E := p_ref15_Reduce_E) (H := p_ref15_Reduce_H) (L := fun N => p_ref15_Reduce_l2_L N) (c := p_ref15_Reduce_c) (ks := p_ref15_Reduce_ks) (rs := p_ref15_Reduce_rs) (F := p_ref15_Reduce) (p_ref15_Reduce_Eok he_ref15_mod) mix Go.Proofs.Try.func40 (by kernel_rfl) (fun N => p_ref15_Reduce_l2_ok N) p_ref15_Reduce_eq hg

/-! livery/liveryref15.Power2Round -/
noncomputable def p_ref15_Power2Round_E : AE := AE.of [(21, ty21), (23, ty23)] [(40, ⟨[.xs (.int .i32) 256], [.xs (.int .i32) 256], g_ref15_Reduce⟩)]
noncomputable def p_ref15_Power2Round_H : Hints := [(4, [1, 2, 3, 4, 5, 9]), (2000000, [2, 3, 4, 5]), (2000001, [1, 2, 3, 4, 5, 9]), (3000000, [2, 3])]
noncomputable def p_ref15_Power2Round_c : Code := (Go.Proofs.Try.f14).body.getD .skip
noncomputable def p_ref15_Power2Round_l4_S : Shape where
  h := { tmps := [.any, .sc (.ptr 0 0 false), .sc (.ptr 1 0 false), .sc (.ptr 2 0 false), .sc (.ptr 3 0 false), .sc (.ptr 4 0 false), .any, .any, .any, .sc (.int .i64), .any, .any, .any, .any, .any, .any, .any, .any, .any, .any, .any, .any, .any, .any, .any, .any, .any, .any, .any, .any, .any, .any, .any, .any, .any, .any, .any, .any, .any, .any], mem := [.live [.xs (.int .i32) (some 256)] true, .live [.xs (.int .i32) (some 256)] true, .live [.xs (.int .i32) (some 256)] true, .live [.xs (.int .i32) (some 256)] true, .live [.xs (.int .i32) (some 256)] true] }
  ks := [.int, .xs, .xs, .xs, .xs, .xs]
  st := fun x => { tmps := [.one .any, .one (.sc (.ptr 0 0 none)), .one (.sc (.ptr 1 0 none)), .one (.sc (.ptr 2 0 none)), .one (.sc (.ptr 3 0 none)), .one (.sc (.ptr 4 0 none)), .one .any, .one .any, .one .any, .one (.sc (.int .i64 x.1)), .one .any, .one .any, .one .any, .one .any, .one .any, .one .any, .one .any, .one .any, .one .any, .one .any, .one .any, .one .any, .one .any, .one .any, .one .any, .one .any, .one .any, .one .any, .one .any, .one .any, .one .any, .one .any, .one .any, .one .any, .one .any, .one .any, .one .any, .one .any, .one .any, .one .any], mem := [.live { segs := [.xs (.int .i32) 256 x.2.1], own := true }, .live { segs := [.xs (.int .i32) 256 x.2.2.1], own := true }, .live { segs := [.xs (.int .i32) 256 x.2.2.2.1], own := true }, .live { segs := [.xs (.int .i32) 256 x.2.2.2.2.1], own := true }, .live { segs := [.xs (.int .i32) 256 x.2.2.2.2.2.1], own := true }] }
noncomputable def p_ref15_Power2Round_l4_F (N : Nat) (β : Type) (x : (Int × List Int × List Int × List Int × List Int × List Int × Unit)) (kn : (Int × List Int × List Int × List Int × List Int × List Int × Unit) → Option β) (ke : ((List Int × List Int × List Int × List Int × Unit)) → Option β) : Option β :=
  if (x.1 < (256:Int)) then
    if 0 ≤ x.1 then (
    if x.1 < 256 then (
    if (x.1.toNat) < 256 then (
    if 0 ≤ x.1 then (
    if x.1 < 256 then (
    if (x.1.toNat) < 256 then (
    if 0 ≤ x.1 then (
    if x.1 < 256 then (
    if (x.1.toNat) < 256 then (
    if ((List.getD (List.set x.2.2.2.2.2.1 (x.1.toNat) (Int.tmod (List.getD x.2.1 (x.1.toNat) 0) (8192:Int))) (x.1.toNat) 0) > (4096:Int)) then
      if 0 ≤ x.1 then (
      if x.1 < 256 then (
      if (x.1.toNat) < 256 then (
      if 0 ≤ x.1 then (
      if x.1 < 256 then (
      if (x.1.toNat) < 256 then (
      if 0 ≤ x.1 then (
      if x.1 < 256 then (
      if (x.1.toNat) < 256 then (
      if 0 ≤ x.1 then (
      if x.1 < 256 then (
      if (x.1.toNat) < 256 then (
      if 0 ≤ x.1 then (
      if x.1 < 256 then (
      if (x.1.toNat) < 256 then (
      kn ((IntKind.i64.wrap (x.1 + (1:Int))), x.2.1, x.2.2.1, x.2.2.2.1, (List.set x.2.2.2.2.1 (x.1.toNat) (IntKind.i32.wrap (Int.tdiv (IntKind.i32.wrap ((List.getD x.2.1 (x.1.toNat) 0) - (List.getD (List.set (List.set x.2.2.2.2.2.1 (x.1.toNat) (Int.tmod (List.getD x.2.1 (x.1.toNat) 0) (8192:Int))) (x.1.toNat) (IntKind.i32.wrap ((List.getD (List.set x.2.2.2.2.2.1 (x.1.toNat) (Int.tmod (List.getD x.2.1 (x.1.toNat) 0) (8192:Int))) (x.1.toNat) 0) - (8192:Int)))) (x.1.toNat) 0))) (8192:Int)))), (List.set (List.set x.2.2.2.2.2.1 (x.1.toNat) (Int.tmod (List.getD x.2.1 (x.1.toNat) 0) (8192:Int))) (x.1.toNat) (IntKind.i32.wrap ((List.getD (List.set x.2.2.2.2.2.1 (x.1.toNat) (Int.tmod (List.getD x.2.1 (x.1.toNat) 0) (8192:Int))) (x.1.toNat) 0) - (8192:Int)))), ())) else none) else none) else none) else none) else none) else none) else none) else none) else none) else none) else none) else none) else none) else none) else none
    else
      if 0 ≤ x.1 then (
      if x.1 < 256 then (
      if (x.1.toNat) < 256 then (
      if 0 ≤ x.1 then (
      if x.1 < 256 then (
      if (x.1.toNat) < 256 then (
      if 0 ≤ x.1 then (
      if x.1 < 256 then (
      if (x.1.toNat) < 256 then (
      kn ((IntKind.i64.wrap (x.1 + (1:Int))), x.2.1, x.2.2.1, x.2.2.2.1, (List.set x.2.2.2.2.1 (x.1.toNat) (IntKind.i32.wrap (Int.tdiv (IntKind.i32.wrap ((List.getD x.2.1 (x.1.toNat) 0) - (List.getD (List.set x.2.2.2.2.2.1 (x.1.toNat) (Int.tmod (List.getD x.2.1 (x.1.toNat) 0) (8192:Int))) (x.1.toNat) 0))) (8192:Int)))), (List.set x.2.2.2.2.2.1 (x.1.toNat) (Int.tmod (List.getD x.2.1 (x.1.toNat) 0) (8192:Int))), ())) else none) else none) else none) else none) else none) else none) else none) else none) else none) else none) else none) else none) else none) else none) else none) else none) else none) else none
  else
    ke (x.2.2.1, x.2.2.2.1, x.2.2.2.2.1, x.2.2.2.2.2.1, ())
noncomputable def p_ref15_Power2Round_l4_go : Go' ((List Int × List Int × List Int × List Int × Unit)) := fun y K => K (.exit 0) { tmps := [.one .any, .one .any, .one (.sc (.ptr 0 0 none)), .one (.sc (.ptr 1 0 none)), .one (.sc (.ptr 2 0 none)), .one (.sc (.ptr 3 0 none)), .one .any, .one .any, .one .any, .one .any, .one .any, .one .any, .one .any, .one .any, .one .any, .one .any, .one .any, .one .any, .one .any, .one .any, .one .any, .one .any, .one .any, .one .any, .one .any, .one .any, .one .any, .one .any, .one .any, .one .any, .one .any, .one .any, .one .any, .one .any, .one .any, .one .any, .one .any, .one .any, .one .any, .one .any], mem := [.live { segs := [.xs (.int .i32) 256 y.1], own := true }, .live { segs := [.xs (.int .i32) 256 y.2.1], own := true }, .live { segs := [.xs (.int .i32) 256 y.2.2.1], own := true }, .live { segs := [.xs (.int .i32) 256 y.2.2.2.1], own := true }] }
noncomputable def p_ref15_Power2Round_l4_L (N : Nat) : LT := upd (LT.nil) 4 (loopE p_ref15_Power2Round_l4_S N (p_ref15_Power2Round_l4_F N) p_ref15_Power2Round_l4_go)
theorem p_ref15_Power2Round_l4_ok (N : Nat) : OkAll p_ref15_Power2Round_E p_ref15_Power2Round_H N (p_ref15_Power2Round_l4_L N) (subs p_ref15_Power2Round_c) :=
  addLoop (c := theLoop 4 p_ref15_Power2Round_c) (OkAll.nil) (by kernel_rfl) (fun x => by kernel_rfl) (fun β x kn ke => by kernel_rfl)
abbrev p_ref15_Power2Round_ks : List Kd := [.xs (.int .i32) 256]
abbrev p_ref15_Power2Round_rs : List Kd := [.xs (.int .i32) 256, .xs (.int .i32) 256]
noncomputable def p_ref15_Power2Round (N : Nat) (x : List Int × Unit) : Option (List Int × List Int) :=
  (g_ref15_Reduce (x.1, ())).bind fun r1 => (
  iter (p_ref15_Power2Round_l4_F N) N ((0:Int), r1, (List.replicate 256 0), (List.replicate 256 0), (List.replicate 256 0), (List.replicate 256 0), ()) fun y2 => (
  some (y2.2.2.1, y2.2.2.2.1)))
theorem p_ref15_Power2Round_eq (N : Nat) (x : Ds [.xs (.int .i32) 256]) : funL p_ref15_Power2Round_E p_ref15_Power2Round_H (p_ref15_Power2Round_l4_L N) N Go.Proofs.Try.f14 p_ref15_Power2Round_c [.xs (.int .i32) 256] [.xs (.int .i32) 256, .xs (.int .i32) 256] x = p_ref15_Power2Round N x := by kernel_rfl
theorem p_ref15_Power2Round_Eok (he_ref15_Reduce : SigOk Go.Proofs.Try.prog 40 ⟨[.xs (.int .i32) 256], [.xs (.int .i32) 256], g_ref15_Reduce⟩) : p_ref15_Power2Round_E.Ok Go.Proofs.Try.prog := AE.of_ok (all_cons ty21_ok (all_cons ty23_ok all_nil)) (all_cons ⟨he_ref15_Reduce, enters_ref15_Reduce⟩ all_nil)
theorem p_ref15_Power2Round_ok (he_ref15_Reduce : SigOk Go.Proofs.Try.prog 40 ⟨[.xs (.int .i32) 256], [.xs (.int .i32) 256], g_ref15_Reduce⟩) {g : Ds [.xs (.int .i32) 256] → Option (Rs [.xs (.int .i32) 256, .xs (.int .i32) 256])} (hg : ∀ x r, g x = some r → ∃ N, p_ref15_Power2Round N x = some r) : SigOk Go.Proofs.Try.prog 14 ⟨[.xs (.int .i32) 256], [.xs (.int .i32) 256, .xs (.int .i32) 256], g⟩ :=
  fun_of (E := p_ref15_Power2Round_E) (H := p_ref15_Power2Round_H) (L := fun N => p_ref15_Power2Round_l4_L N) (c := p_ref15_Power2Round_c) (ks := p_ref15_Power2Round_ks) (rs := p_ref15_Power2Round_rs) (F := p_ref15_Power2Round) (p_ref15_Power2Round_Eok he_ref15_Reduce) mix Go.Proofs.Try.func14 (by kernel_rfl) (fun N => p_ref15_Power2Round_l4_ok N) p_ref15_Power2Round_eq hg

/-! livery/liveryref15.Decompose -/
noncomputable def p_ref15_Decompose_E : AE := AE.of [(21, ty21), (23, ty23)] [(40, ⟨[.xs (.int .i32) 256], [.xs (.int .i32) 256], g_ref15_Reduce⟩)]
noncomputable def p_ref15_Decompose_H : Hints := [(4, [1, 2, 3, 4, 5, 9]), (2000000, [2, 3, 4, 5]), (2000001, [1, 2, 3, 4, 5, 9]), (3000000, [2, 3])]
noncomputable def p_ref15_Decompose_c : Code := (Go.Proofs.Try.f16).body.getD .skip
noncomputable def p_ref15_Decompose_l4_S : Shape where
  h := { tmps := [.any, .sc (.ptr 0 0 false), .sc (.ptr 1 0 false), .sc (.ptr 2 0 false), .sc (.ptr 3 0 false), .sc (.ptr 4 0 false), .any, .any, .any, .sc (.int .i64), .any, .any, .any, .any, .any, .any, .any, .any, .any, .any, .any, .any, .any, .any, .any, .any, .any, .any, .any, .any, .any, .any, .any, .any, .any, .any, .any, .any, .any, .any, .any, .any, .any, .any, .any, .any, .any, .any, .any, .any, .any, .any, .any], mem := [.live [.xs (.int .i32) (some 256)] true, .live [.xs (.int .i32) (some 256)] true, .live [.xs (.int .i32) (some 256)] true, .live [.xs (.int .i32) (some 256)] true, .live [.xs (.int .i32) (some 256)] true] }
  ks := [.int, .xs, .xs, .xs, .xs, .xs]
  st := fun x => { tmps := [.one .any, .one (.sc (.ptr 0 0 none)), .one (.sc (.ptr 1 0 none)), .one (.sc (.ptr 2 0 none)), .one (.sc (.ptr 3 0 none)), .one (.sc (.ptr 4 0 none)), .one .any, .one .any, .one .any, .one (.sc (.int .i64 x.1)), .one .any, .one .any, .one .any, .one .any, .one .any, .one .any, .one .any, .one .any, .one .any, .one .any, .one .any, .one .any, .one .any, .one .any, .one .any, .one .any, .one .any, .one .any, .one .any, .one .any, .one .any, .one .any, .one .any, .one .any, .one .any, .one .any, .one .any, .one .any, .one .any, .one .any, .one .any, .one .any, .one .any, .one .any, .one .any, .one .any, .one .any, .one .any, .one .any, .one .any, .one .any, .one .any, .one .any], mem := [.live { segs := [.xs (.int .i32) 256 x.2.1], own := true }, .live { segs := [.xs (.int .i32) 256 x.2.2.1], own := true }, .live { segs := [.xs (.int .i32) 256 x.2.2.2.1], own := true }, .live { segs := [.xs (.int .i32) 256 x.2.2.2.2.1], own := true }, .live { segs := [.xs (.int .i32) 256 x.2.2.2.2.2.1], own := true }] }
noncomputable def p_ref15_Decompose_l4_F (N : Nat) (β : Type) (x : (Int × List Int × List Int × List Int × List Int × List Int × Unit)) (kn : (Int × List Int × List Int × List Int × List Int × List Int × Unit) → Option β) (ke : ((List Int × List Int × List Int × List Int × Unit)) → Option β) : Option β :=
  if (x.1 < (256:Int)) then
    if 0 ≤ x.1 then (
    if x.1 < 256 then (
    if (x.1.toNat) < 256 then (
    if 0 ≤ x.1 then (
    if x.1 < 256 then (
    if (x.1.toNat) < 256 then (
    if 0 ≤ x.1 then (
    if x.1 < 256 then (
    if (x.1.toNat) < 256 then (
    if ((List.getD (List.set x.2.2.2.2.2.1 (x.1.toNat) (Int.tmod (List.getD x.2.1 (x.1.toNat) 0) (523776:Int))) (x.1.toNat) 0) > (261888:Int)) then
      if 0 ≤ x.1 then (
      if x.1 < 256 then (
      if (x.1.toNat) < 256 then (
      if 0 ≤ x.1 then (
      if x.1 < 256 then (
      if (x.1.toNat) < 256 then (
      if 0 ≤ x.1 then (
      if x.1 < 256 then (
      if (x.1.toNat) < 256 then (
      if 0 ≤ x.1 then (
      if x.1 < 256 then (
      if (x.1.toNat) < 256 then (
      if ((IntKind.i32.wrap ((List.getD x.2.1 (x.1.toNat) 0) - (List.getD (List.set (List.set x.2.2.2.2.2.1 (x.1.toNat) (Int.tmod (List.getD x.2.1 (x.1.toNat) 0) (523776:Int))) (x.1.toNat) (IntKind.i32.wrap ((List.getD (List.set x.2.2.2.2.2.1 (x.1.toNat) (Int.tmod (List.getD x.2.1 (x.1.toNat) 0) (523776:Int))) (x.1.toNat) 0) - (523776:Int)))) (x.1.toNat) 0))) = (8380416:Int)) then
        if 0 ≤ x.1 then (
        if x.1 < 256 then (
        if (x.1.toNat) < 256 then (
        if 0 ≤ x.1 then (
        if x.1 < 256 then (
        if (x.1.toNat) < 256 then (
        kn ((IntKind.i64.wrap (x.1 + (1:Int))), x.2.1, x.2.2.1, x.2.2.2.1, x.2.2.2.2.1, (List.set (List.set (List.set x.2.2.2.2.2.1 (x.1.toNat) (Int.tmod (List.getD x.2.1 (x.1.toNat) 0) (523776:Int))) (x.1.toNat) (IntKind.i32.wrap ((List.getD (List.set x.2.2.2.2.2.1 (x.1.toNat) (Int.tmod (List.getD x.2.1 (x.1.toNat) 0) (523776:Int))) (x.1.toNat) 0) - (523776:Int)))) (x.1.toNat) (IntKind.i32.wrap ((List.getD (List.set (List.set x.2.2.2.2.2.1 (x.1.toNat) (Int.tmod (List.getD x.2.1 (x.1.toNat) 0) (523776:Int))) (x.1.toNat) (IntKind.i32.wrap ((List.getD (List.set x.2.2.2.2.2.1 (x.1.toNat) (Int.tmod (List.getD x.2.1 (x.1.toNat) 0) (523776:Int))) (x.1.toNat) 0) - (523776:Int)))) (x.1.toNat) 0) - (1:Int)))), ())) else none) else none) else none) else none) else none) else none
      else
        if 0 ≤ x.1 then (
        if x.1 < 256 then (
        if (x.1.toNat) < 256 then (
        if 0 ≤ x.1 then (
        if x.1 < 256 then (
        if (x.1.toNat) < 256 then (
        if 0 ≤ x.1 then (
        if x.1 < 256 then (
        if (x.1.toNat) < 256 then (
        kn ((IntKind.i64.wrap (x.1 + (1:Int))), x.2.1, x.2.2.1, x.2.2.2.1, (List.set x.2.2.2.2.1 (x.1.toNat) (IntKind.i32.wrap (Int.tdiv (IntKind.i32.wrap ((List.getD x.2.1 (x.1.toNat) 0) - (List.getD (List.set (List.set x.2.2.2.2.2.1 (x.1.toNat) (Int.tmod (List.getD x.2.1 (x.1.toNat) 0) (523776:Int))) (x.1.toNat) (IntKind.i32.wrap ((List.getD (List.set x.2.2.2.2.2.1 (x.1.toNat) (Int.tmod (List.getD x.2.1 (x.1.toNat) 0) (523776:Int))) (x.1.toNat) 0) - (523776:Int)))) (x.1.toNat) 0))) (523776:Int)))), (List.set (List.set x.2.2.2.2.2.1 (x.1.toNat) (Int.tmod (List.getD x.2.1 (x.1.toNat) 0) (523776:Int))) (x.1.toNat) (IntKind.i32.wrap ((List.getD (List.set x.2.2.2.2.2.1 (x.1.toNat) (Int.tmod (List.getD x.2.1 (x.1.toNat) 0) (523776:Int))) (x.1.toNat) 0) - (523776:Int)))), ())) else none) else none) else none) else none) else none) else none) else none) else none) else none) else none) else none) else none) else none) else none) else none) else none) else none) else none) else none) else none) else none
    else
      if 0 ≤ x.1 then (
      if x.1 < 256 then (
      if (x.1.toNat) < 256 then (
      if 0 ≤ x.1 then (
      if x.1 < 256 then (
      if (x.1.toNat) < 256 then (
      if ((IntKind.i32.wrap ((List.getD x.2.1 (x.1.toNat) 0) - (List.getD (List.set x.2.2.2.2.2.1 (x.1.toNat) (Int.tmod (List.getD x.2.1 (x.1.toNat) 0) (523776:Int))) (x.1.toNat) 0))) = (8380416:Int)) then
        if 0 ≤ x.1 then (
        if x.1 < 256 then (
        if (x.1.toNat) < 256 then (
        if 0 ≤ x.1 then (
        if x.1 < 256 then (
        if (x.1.toNat) < 256 then (
        kn ((IntKind.i64.wrap (x.1 + (1:Int))), x.2.1, x.2.2.1, x.2.2.2.1, x.2.2.2.2.1, (List.set (List.set x.2.2.2.2.2.1 (x.1.toNat) (Int.tmod (List.getD x.2.1 (x.1.toNat) 0) (523776:Int))) (x.1.toNat) (IntKind.i32.wrap ((List.getD (List.set x.2.2.2.2.2.1 (x.1.toNat) (Int.tmod (List.getD x.2.1 (x.1.toNat) 0) (523776:Int))) (x.1.toNat) 0) - (1:Int)))), ())) else none) else none) else none) else none) else none) else none
      else
        if 0 ≤ x.1 then (
        if x.1 < 256 then (
        if (x.1.toNat) < 256 then (
        if 0 ≤ x.1 then (
        if x.1 < 256 then (
        if (x.1.toNat) < 256 then (
        if 0 ≤ x.1 then (
        if x.1 < 256 then (
        if (x.1.toNat) < 256 then (
        kn ((IntKind.i64.wrap (x.1 + (1:Int))), x.2.1, x.2.2.1, x.2.2.2.1, (List.set x.2.2.2.2.1 (x.1.toNat) (IntKind.i32.wrap (Int.tdiv (IntKind.i32.wrap ((List.getD x.2.1 (x.1.toNat) 0) - (List.getD (List.set x.2.2.2.2.2.1 (x.1.toNat) (Int.tmod (List.getD x.2.1 (x.1.toNat) 0) (523776:Int))) (x.1.toNat) 0))) (523776:Int)))), (List.set x.2.2.2.2.2.1 (x.1.toNat) (Int.tmod (List.getD x.2.1 (x.1.toNat) 0) (523776:Int))), ())) else none) else none) else none) else none) else none) else none) else none) else none) else none) else none) else none) else none) else none) else none) else none) else none) else none) else none) else none) else none) else none) else none) else none) else none
  else
    ke (x.2.2.1, x.2.2.2.1, x.2.2.2.2.1, x.2.2.2.2.2.1, ())
noncomputable def p_ref15_Decompose_l4_go : Go' ((List Int × List Int × List Int × List Int × Unit)) := fun y K => K (.exit 0) { tmps := [.one .any, .one .any, .one (.sc (.ptr 0 0 none)), .one (.sc (.ptr 1 0 none)), .one (.sc (.ptr 2 0 none)), .one (.sc (.ptr 3 0 none)), .one .any, .one .any, .one .any, .one .any, .one .any, .one .any, .one .any, .one .any, .one .any, .one .any, .one .any, .one .any, .one .any, .one .any, .one .any, .one .any, .one .any, .one .any, .one .any, .one .any, .one .any, .one .any, .one .any, .one .any, .one .any, .one .any, .one .any, .one .any, .one .any, .one .any, .one .any, .one .any, .one .any, .one .any, .one .any, .one .any, .one .any, .one .any, .one .any, .one .any, .one .any, .one .any, .one .any, .one .any, .one .any, .one .any, .one .any], mem := [.live { segs := [.xs (.int .i32) 256 y.1], own := true }, .live { segs := [.xs (.int .i32) 256 y.2.1], own := true }, .live { segs := [.xs (.int .i32) 256 y.2.2.1], own := true }, .live { segs := [.xs (.int .i32) 256 y.2.2.2.1], own := true }] }
noncomputable def p_ref15_Decompose_l4_L (N : Nat) : LT := upd (LT.nil) 4 (loopE p_ref15_Decompose_l4_S N (p_ref15_Decompose_l4_F N) p_ref15_Decompose_l4_go)
theorem p_ref15_Decompose_l4_ok (N : Nat) : OkAll p_ref15_Decompose_E p_ref15_Decompose_H N (p_ref15_Decompose_l4_L N) (subs p_ref15_Decompose_c) :=
  addLoop (c := theLoop 4 p_ref15_Decompose_c) (OkAll.nil) (by kernel_rfl) (fun x => by kernel_rfl) (fun β x kn ke => by kernel_rfl)
abbrev p_ref15_Decompose_ks : List Kd := [.xs (.int .i32) 256]
abbrev p_ref15_Decompose_rs : List Kd := [.xs (.int .i32) 256, .xs (.int .i32) 256]
noncomputable def p_ref15_Decompose (N : Nat) (x : List Int × Unit) : Option (List Int × List Int) :=
  (g_ref15_Reduce (x.1, ())).bind fun r1 => (
  iter (p_ref15_Decompose_l4_F N) N ((0:Int), r1, (List.replicate 256 0), (List.replicate 256 0), (List.replicate 256 0), (List.replicate 256 0), ()) fun y2 => (
  some (y2.2.2.1, y2.2.2.2.1)))
theorem p_ref15_Decompose_eq (N : Nat) (x : Ds [.xs (.int .i32) 256]) : funL p_ref15_Decompose_E p_ref15_Decompose_H (p_ref15_Decompose_l4_L N) N Go.Proofs.Try.f16 p_ref15_Decompose_c [.xs (.int .i32) 256] [.xs (.int .i32) 256, .xs (.int .i32) 256] x = p_ref15_Decompose N x := by kernel_rfl
theorem p_ref15_Decompose_Eok (he_ref15_Reduce : SigOk Go.Proofs.Try.prog 40 ⟨[.xs (.int .i32) 256], [.xs (.int .i32) 256], g_ref15_Reduce⟩) : p_ref15_Decompose_E.Ok Go.Proofs.Try.prog := AE.of_ok (all_cons ty21_ok (all_cons ty23_ok all_nil)) (all_cons ⟨he_ref15_Reduce, enters_ref15_Reduce⟩ all_nil)
theorem p_ref15_Decompose_ok (he_ref15_Reduce : SigOk Go.Proofs.Try.prog 40 ⟨[.xs (.int .i32) 256], [.xs (.int .i32) 256], g_ref15_Reduce⟩) {g : Ds [.xs (.int .i32) 256] → Option (Rs [.xs (.int .i32) 256, .xs (.int .i32) 256])} (hg : ∀ x r, g x = some r → ∃ N, p_ref15_Decompose N x = some r) : SigOk Go.Proofs.Try.prog 16 ⟨[.xs (.int .i32) 256], [.xs (.int .i32) 256, .xs (.int .i32) 256], g⟩ :=
  fun_of (E := p_ref15_Decompose_E) (H := p_ref15_Decompose_H) (L := fun N => p_ref15_Decompose_l4_L N) (c := p_ref15_Decompose_c) (ks := p_ref15_Decompose_ks) (rs := p_ref15_Decompose_rs) (F := p_ref15_Decompose) (p_ref15_Decompose_Eok he_ref15_Reduce) mix Go.Proofs.Try.func16 (by kernel_rfl) (fun N => p_ref15_Decompose_l4_ok N) p_ref15_Decompose_eq hg

/-! livery/liverylaw15.live -/
noncomputable def p_law15_live_E : AE := AE.of [(21, ty21), (23, ty23)] [(15, ⟨[.xs (.int .i32) 256], [.xs (.int .i32) 256, .xs (.int .i32) 256], g_dring_Decompose⟩), (13, ⟨[.xs (.int .i32) 256], [.xs (.int .i32) 256, .xs (.int .i32) 256], g_dring_Power2Round⟩)]
noncomputable def p_law15_live_H : Hints := [(3000000, [0])]
noncomputable def p_law15_live_c : Code := (Go.Proofs.Try.f17).body.getD .skip
abbrev p_law15_live_ks : List Kd := []
abbrev p_law15_live_rs : List Kd := [.bool]
noncomputable def p_law15_live (N : Nat) (x : Unit) : Option (Bool) :=
  (g_dring_Decompose ((List.set (List.replicate 256 0) 0 (8380416:Int)), ())).bind fun r1 => (
  (g_dring_Power2Round ((List.set (List.replicate 256 0) 0 (4097:Int)), ())).bind fun r2 => (
  if ((List.getD r1.1 0 0) = (0:Int)) then
    if ((List.getD r1.2 0 0) = (-1:Int)) then
      if ((List.getD r2.1 0 0) = (1:Int)) then
        some (decide ((List.getD r2.2 0 0) = (-4095:Int)))
      else
        some false
    else
      some false
  else
    some false))
theorem p_law15_live_eq (N : Nat) (x : Ds []) : funL p_law15_live_E p_law15_live_H (LT.nil) N Go.Proofs.Try.f17 p_law15_live_c [] [.bool] x = p_law15_live N x := by kernel_rfl
theorem p_law15_live_Eok (he_dring_Decompose : SigOk Go.Proofs.Try.prog 15 ⟨[.xs (.int .i32) 256], [.xs (.int .i32) 256, .xs (.int .i32) 256], g_dring_Decompose⟩) (he_dring_Power2Round : SigOk Go.Proofs.Try.prog 13 ⟨[.xs (.int .i32) 256], [.xs (.int .i32) 256, .xs (.int .i32) 256], g_dring_Power2Round⟩) : p_law15_live_E.Ok Go.Proofs.Try.prog := AE.of_ok (all_cons ty21_ok (all_cons ty23_ok all_nil)) (all_cons ⟨he_dring_Decompose, enters_dring_Decompose⟩ (all_cons ⟨he_dring_Power2Round, enters_dring_Power2Round⟩ all_nil))
theorem p_law15_live_ok (he_dring_Decompose : SigOk Go.Proofs.Try.prog 15 ⟨[.xs (.int .i32) 256], [.xs (.int .i32) 256, .xs (.int .i32) 256], g_dring_Decompose⟩) (he_dring_Power2Round : SigOk Go.Proofs.Try.prog 13 ⟨[.xs (.int .i32) 256], [.xs (.int .i32) 256, .xs (.int .i32) 256], g_dring_Power2Round⟩) {g : Ds [] → Option (Rs [.bool])} (hg : ∀ x r, g x = some r → ∃ N, p_law15_live N x = some r) : SigOk Go.Proofs.Try.prog 17 ⟨[], [.bool], g⟩ :=
  fun_of (E := p_law15_live_E) (H := p_law15_live_H) (L := fun N => LT.nil) (c := p_law15_live_c) (ks := p_law15_live_ks) (rs := p_law15_live_rs) (F := p_law15_live) (p_law15_live_Eok he_dring_Decompose he_dring_Power2Round) mix Go.Proofs.Try.func17 (by kernel_rfl) (fun N => OkAll.nil) p_law15_live_eq hg

/-! livery/liverylaw15.DringRounds -/
noncomputable def p_law15_DringRounds_E : AE := AE.of [(21, ty21), (23, ty23)] [(13, ⟨[.xs (.int .i32) 256], [.xs (.int .i32) 256, .xs (.int .i32) 256], g_dring_Power2Round⟩), (14, ⟨[.xs (.int .i32) 256], [.xs (.int .i32) 256, .xs (.int .i32) 256], g_ref15_Power2Round⟩), (15, ⟨[.xs (.int .i32) 256], [.xs (.int .i32) 256, .xs (.int .i32) 256], g_dring_Decompose⟩), (16, ⟨[.xs (.int .i32) 256], [.xs (.int .i32) 256, .xs (.int .i32) 256], g_ref15_Decompose⟩), (17, ⟨[], [.bool], g_law15_live⟩)]
noncomputable def p_law15_DringRounds_H : Hints := [(3000000, [2])]
noncomputable def p_law15_DringRounds_c : Code := (Go.Proofs.Try.f3).body.getD .skip
abbrev p_law15_DringRounds_ks : List Kd := [.xs (.int .i32) 256]
abbrev p_law15_DringRounds_rs : List Kd := [.bool]
noncomputable def p_law15_DringRounds (N : Nat) (x : List Int × Unit) : Option (Bool) :=
  (g_dring_Power2Round (x.1, ())).bind fun r1 => (
  (g_ref15_Power2Round (x.1, ())).bind fun r2 => (
  (g_dring_Decompose (x.1, ())).bind fun r3 => (
  (g_ref15_Decompose (x.1, ())).bind fun r4 => (
  (g_law15_live (())).bind fun r5 => (
  if (r5 = true) then
    if (r1.1 = r2.1) then
      if (r1.2 = r2.2) then
        if (r3.1 = r4.1) then
          some (decide (r3.2 = r4.2))
        else
          some false
      else
        some false
    else
      some false
  else
    some false)))))
theorem p_law15_DringRounds_eq (N : Nat) (x : Ds [.xs (.int .i32) 256]) : funL p_law15_DringRounds_E p_law15_DringRounds_H (LT.nil) N Go.Proofs.Try.f3 p_law15_DringRounds_c [.xs (.int .i32) 256] [.bool] x = p_law15_DringRounds N x := by kernel_rfl
theorem p_law15_DringRounds_Eok (he_dring_Power2Round : SigOk Go.Proofs.Try.prog 13 ⟨[.xs (.int .i32) 256], [.xs (.int .i32) 256, .xs (.int .i32) 256], g_dring_Power2Round⟩) (he_ref15_Power2Round : SigOk Go.Proofs.Try.prog 14 ⟨[.xs (.int .i32) 256], [.xs (.int .i32) 256, .xs (.int .i32) 256], g_ref15_Power2Round⟩) (he_dring_Decompose : SigOk Go.Proofs.Try.prog 15 ⟨[.xs (.int .i32) 256], [.xs (.int .i32) 256, .xs (.int .i32) 256], g_dring_Decompose⟩) (he_ref15_Decompose : SigOk Go.Proofs.Try.prog 16 ⟨[.xs (.int .i32) 256], [.xs (.int .i32) 256, .xs (.int .i32) 256], g_ref15_Decompose⟩) (he_law15_live : SigOk Go.Proofs.Try.prog 17 ⟨[], [.bool], g_law15_live⟩) : p_law15_DringRounds_E.Ok Go.Proofs.Try.prog := AE.of_ok (all_cons ty21_ok (all_cons ty23_ok all_nil)) (all_cons ⟨he_dring_Power2Round, enters_dring_Power2Round⟩ (all_cons ⟨he_ref15_Power2Round, enters_ref15_Power2Round⟩ (all_cons ⟨he_dring_Decompose, enters_dring_Decompose⟩ (all_cons ⟨he_ref15_Decompose, enters_ref15_Decompose⟩ (all_cons ⟨he_law15_live, enters_law15_live⟩ all_nil)))))
theorem p_law15_DringRounds_ok (he_dring_Power2Round : SigOk Go.Proofs.Try.prog 13 ⟨[.xs (.int .i32) 256], [.xs (.int .i32) 256, .xs (.int .i32) 256], g_dring_Power2Round⟩) (he_ref15_Power2Round : SigOk Go.Proofs.Try.prog 14 ⟨[.xs (.int .i32) 256], [.xs (.int .i32) 256, .xs (.int .i32) 256], g_ref15_Power2Round⟩) (he_dring_Decompose : SigOk Go.Proofs.Try.prog 15 ⟨[.xs (.int .i32) 256], [.xs (.int .i32) 256, .xs (.int .i32) 256], g_dring_Decompose⟩) (he_ref15_Decompose : SigOk Go.Proofs.Try.prog 16 ⟨[.xs (.int .i32) 256], [.xs (.int .i32) 256, .xs (.int .i32) 256], g_ref15_Decompose⟩) (he_law15_live : SigOk Go.Proofs.Try.prog 17 ⟨[], [.bool], g_law15_live⟩) {g : Ds [.xs (.int .i32) 256] → Option (Rs [.bool])} (hg : ∀ x r, g x = some r → ∃ N, p_law15_DringRounds N x = some r) : SigOk Go.Proofs.Try.prog 3 ⟨[.xs (.int .i32) 256], [.bool], g⟩ :=
  fun_of (E := p_law15_DringRounds_E) (H := p_law15_DringRounds_H) (L := fun N => LT.nil) (c := p_law15_DringRounds_c) (ks := p_law15_DringRounds_ks) (rs := p_law15_DringRounds_rs) (F := p_law15_DringRounds) (p_law15_DringRounds_Eok he_dring_Power2Round he_ref15_Power2Round he_dring_Decompose he_ref15_Decompose he_law15_live) mix Go.Proofs.Try.func3 (by kernel_rfl) (fun N => OkAll.nil) p_law15_DringRounds_eq hg
end Go.Ax.TryP
