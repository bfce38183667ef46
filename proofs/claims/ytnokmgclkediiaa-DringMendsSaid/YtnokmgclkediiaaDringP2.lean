/- A part of the proof: DringP2. -/
import Derived.Test.YtnokmgclkediiaaDringS2
/-! Printed by program (gen.py). -/
set_option linter.unusedVariables false
namespace Go.Ax.TryP
/-! livery/dring.centred -/
noncomputable def p_dring_centred_E : AE := AE.of [(2, ty2), (21, ty21)] [(59, ⟨[.int .i64], [.int .i32], g_dring_below⟩)]
noncomputable def p_dring_centred_H : Hints := [(3000000, [2])]
noncomputable def p_dring_centred_c : Code := (Go.Proofs.Try.f67).body.getD .skip
abbrev p_dring_centred_ks : List Kd := [.int .i32]
abbrev p_dring_centred_rs : List Kd := [.int .i32]
noncomputable def p_dring_centred (N : Nat) (x : Int × Unit) : Option (Int) :=
  (g_dring_below ((IntKind.i64.wrap x.1), ())).bind fun r1 => (
  if (r1 > (4190208:Int)) then
    some (IntKind.i32.wrap (r1 - (8380417:Int)))
  else
    some r1)
theorem p_dring_centred_eq (N : Nat) (x : Ds [.int .i32]) : funL p_dring_centred_E p_dring_centred_H (LT.nil) N Go.Proofs.Try.f67 p_dring_centred_c [.int .i32] [.int .i32] x = p_dring_centred N x := by kernel_rfl
theorem p_dring_centred_Eok (he_dring_below : SigOk Go.Proofs.Try.prog 59 ⟨[.int .i64], [.int .i32], g_dring_below⟩) : p_dring_centred_E.Ok Go.Proofs.Try.prog := AE.of_ok (all_cons ty2_ok (all_cons ty21_ok all_nil)) (all_cons ⟨he_dring_below, enters_dring_below⟩ all_nil)
theorem p_dring_centred_ok (he_dring_below : SigOk Go.Proofs.Try.prog 59 ⟨[.int .i64], [.int .i32], g_dring_below⟩) {g : Ds [.int .i32] → Option (Rs [.int .i32])} (hg : ∀ x r, g x = some r → ∃ N, p_dring_centred N x = some r) : SigOk Go.Proofs.Try.prog 67 ⟨[.int .i32], [.int .i32], g⟩ :=
  fun_of (E := p_dring_centred_E) (H := p_dring_centred_H) (L := fun N => LT.nil) (c := p_dring_centred_c) (ks := p_dring_centred_ks) (rs := p_dring_centred_rs) (F := p_dring_centred) (p_dring_centred_Eok he_dring_below) mix Go.Proofs.Try.func67 (by kernel_rfl) (fun N => OkAll.nil) p_dring_centred_eq hg

/-! livery/dring.each -/
noncomputable def p_dring_each__dring_centred_E : AE := AE.of [(21, ty21), (23, ty23)] [(67, ⟨[.int .i32], [.int .i32], g_dring_centred⟩)]
noncomputable def p_dring_each__dring_centred_H : Hints := [(2, [1, 2, 4, 7, 8]), (2000000, [2, 4]), (2000001, [1, 2, 4, 7, 8]), (3000000, [4])]
noncomputable def p_dring_each__dring_centred_c : Code := (Go.Proofs.Try.f57).body.getD .skip
noncomputable def p_dring_each__dring_centred_l2_S : Shape where
  h := { tmps := [.any, .sc (.fn 67), .sc (.ptr 0 0 false), .any, .sc (.ptr 1 0 false), .any, .any, .agg [.xs (.int .i32) (some 256)], .sc (.int .i64), .any, .any, .any, .any, .any, .any, .any, .any, .any, .any], mem := [.live [.xs (.int .i32) (some 256)] true, .live [.xs (.int .i32) (some 256)] true] }
  ks := [.xs, .int, .xs, .xs]
  st := fun x => { tmps := [.one .any, .one (.sc (.fn 67)), .one (.sc (.ptr 0 0 none)), .one .any, .one (.sc (.ptr 1 0 none)), .one .any, .one .any, .one (.agg [.xs (.int .i32) 256 x.1]), .one (.sc (.int .i64 x.2.1)), .one .any, .one .any, .one .any, .one .any, .one .any, .one .any, .one .any, .one .any, .one .any, .one .any], mem := [.live { segs := [.xs (.int .i32) 256 x.2.2.1], own := true }, .live { segs := [.xs (.int .i32) 256 x.2.2.2.1], own := true }] }
noncomputable def p_dring_each__dring_centred_l2_F (N : Nat) (β : Type) (x : (List Int × Int × List Int × List Int × Unit)) (kn : (List Int × Int × List Int × List Int × Unit) → Option β) (ke : ((List Int × List Int × Unit)) → Option β) : Option β :=
  if (x.2.1 < (256:Int)) then
    if 0 ≤ x.2.1 then (
    if x.2.1 < 256 then (
    if (x.2.1.toNat) < 256 then (
    (g_dring_centred ((List.getD x.1 (x.2.1.toNat) 0), ())).bind fun r1 => (
    if 0 ≤ x.2.1 then (
    if x.2.1 < 256 then (
    if (x.2.1.toNat) < 256 then (
    kn (x.1, (IntKind.i64.wrap (x.2.1 + (1:Int))), (List.set x.2.2.1 (x.2.1.toNat) r1), x.2.2.2.1, ())) else none) else none) else none)) else none) else none) else none
  else
    ke (x.2.2.1, x.2.2.2.1, ())
noncomputable def p_dring_each__dring_centred_l2_go : Go' ((List Int × List Int × Unit)) := fun y K => K (.exit 0) { tmps := [.one .any, .one .any, .one (.sc (.ptr 0 0 none)), .one .any, .one (.sc (.ptr 1 0 none)), .one .any, .one .any, .one .any, .one .any, .one .any, .one .any, .one .any, .one .any, .one .any, .one .any, .one .any, .one .any, .one .any, .one .any], mem := [.live { segs := [.xs (.int .i32) 256 y.1], own := true }, .live { segs := [.xs (.int .i32) 256 y.2.1], own := true }] }
noncomputable def p_dring_each__dring_centred_l2_L (N : Nat) : LT := upd (LT.nil) 2 (loopE p_dring_each__dring_centred_l2_S N (p_dring_each__dring_centred_l2_F N) p_dring_each__dring_centred_l2_go)
theorem p_dring_each__dring_centred_l2_ok (N : Nat) : OkAll p_dring_each__dring_centred_E p_dring_each__dring_centred_H N (p_dring_each__dring_centred_l2_L N) (subs p_dring_each__dring_centred_c) :=
  addLoop (c := theLoop 2 p_dring_each__dring_centred_c) (OkAll.nil) (by kernel_rfl) (fun x => by kernel_rfl) (fun β x kn ke => by kernel_rfl)
abbrev p_dring_each__dring_centred_ks : List Kd := [.xs (.int .i32) 256, .fnc 67]
abbrev p_dring_each__dring_centred_rs : List Kd := [.xs (.int .i32) 256]
noncomputable def p_dring_each__dring_centred (N : Nat) (x : List Int × Unit × Unit) : Option (List Int) :=
  iter (p_dring_each__dring_centred_l2_F N) N (x.1, (0:Int), x.1, (List.replicate 256 0), ()) fun y2 => (
  some y2.1)
theorem p_dring_each__dring_centred_eq (N : Nat) (x : Ds [.xs (.int .i32) 256, .fnc 67]) : funL p_dring_each__dring_centred_E p_dring_each__dring_centred_H (p_dring_each__dring_centred_l2_L N) N Go.Proofs.Try.f57 p_dring_each__dring_centred_c [.xs (.int .i32) 256, .fnc 67] [.xs (.int .i32) 256] x = p_dring_each__dring_centred N x := by kernel_rfl
theorem p_dring_each__dring_centred_Eok (he_dring_centred : SigOk Go.Proofs.Try.prog 67 ⟨[.int .i32], [.int .i32], g_dring_centred⟩) : p_dring_each__dring_centred_E.Ok Go.Proofs.Try.prog := AE.of_ok (all_cons ty21_ok (all_cons ty23_ok all_nil)) (all_cons ⟨he_dring_centred, enters_dring_centred⟩ all_nil)
theorem p_dring_each__dring_centred_ok (he_dring_centred : SigOk Go.Proofs.Try.prog 67 ⟨[.int .i32], [.int .i32], g_dring_centred⟩) {g : Ds [.xs (.int .i32) 256, .fnc 67] → Option (Rs [.xs (.int .i32) 256])} (hg : ∀ x r, g x = some r → ∃ N, p_dring_each__dring_centred N x = some r) : SigOk Go.Proofs.Try.prog 57 ⟨[.xs (.int .i32) 256, .fnc 67], [.xs (.int .i32) 256], g⟩ :=
  fun_of (E := p_dring_each__dring_centred_E) (H := p_dring_each__dring_centred_H) (L := fun N => p_dring_each__dring_centred_l2_L N) (c := p_dring_each__dring_centred_c) (ks := p_dring_each__dring_centred_ks) (rs := p_dring_each__dring_centred_rs) (F := p_dring_each__dring_centred) (p_dring_each__dring_centred_Eok he_dring_centred) mix Go.Proofs.Try.func57 (by kernel_rfl) (fun N => p_dring_each__dring_centred_l2_ok N) p_dring_each__dring_centred_eq hg

/-! livery/dring.Center -/
noncomputable def p_dring_Center_E : AE := AE.of [(23, ty23)] [(57, ⟨[.xs (.int .i32) 256, .fnc 67], [.xs (.int .i32) 256], g_dring_each__dring_centred⟩)]
noncomputable def p_dring_Center_H : Hints := [(3000000, [2])]
noncomputable def p_dring_Center_c : Code := (Go.Proofs.Try.f41).body.getD .skip
abbrev p_dring_Center_ks : List Kd := [.xs (.int .i32) 256]
abbrev p_dring_Center_rs : List Kd := [.xs (.int .i32) 256]
noncomputable def p_dring_Center (N : Nat) (x : List Int × Unit) : Option (List Int) :=
  (g_dring_each__dring_centred (x.1, (), ())).bind fun r1 => (
  some r1)
theorem p_dring_Center_eq (N : Nat) (x : Ds [.xs (.int .i32) 256]) : funL p_dring_Center_E p_dring_Center_H (LT.nil) N Go.Proofs.Try.f41 p_dring_Center_c [.xs (.int .i32) 256] [.xs (.int .i32) 256] x = p_dring_Center N x := by kernel_rfl
theorem p_dring_Center_Eok (he_dring_each__dring_centred : SigOk Go.Proofs.Try.prog 57 ⟨[.xs (.int .i32) 256, .fnc 67], [.xs (.int .i32) 256], g_dring_each__dring_centred⟩) : p_dring_Center_E.Ok Go.Proofs.Try.prog := AE.of_ok (all_cons ty23_ok all_nil) (all_cons ⟨he_dring_each__dring_centred, enters_dring_each⟩ all_nil)
theorem p_dring_Center_ok (he_dring_each__dring_centred : SigOk Go.Proofs.Try.prog 57 ⟨[.xs (.int .i32) 256, .fnc 67], [.xs (.int .i32) 256], g_dring_each__dring_centred⟩) {g : Ds [.xs (.int .i32) 256] → Option (Rs [.xs (.int .i32) 256])} (hg : ∀ x r, g x = some r → ∃ N, p_dring_Center N x = some r) : SigOk Go.Proofs.Try.prog 41 ⟨[.xs (.int .i32) 256], [.xs (.int .i32) 256], g⟩ :=
  fun_of (E := p_dring_Center_E) (H := p_dring_Center_H) (L := fun N => LT.nil) (c := p_dring_Center_c) (ks := p_dring_Center_ks) (rs := p_dring_Center_rs) (F := p_dring_Center) (p_dring_Center_Eok he_dring_each__dring_centred) mix Go.Proofs.Try.func41 (by kernel_rfl) (fun N => OkAll.nil) p_dring_Center_eq hg

/-! livery/liveryref15.Center -/
noncomputable def p_ref15_Center_E : AE := AE.of [(21, ty21), (23, ty23)] [(40, ⟨[.xs (.int .i32) 256], [.xs (.int .i32) 256], g_ref15_Reduce⟩)]
noncomputable def p_ref15_Center_H : Hints := [(3, [1, 2, 6]), (2000000, [1, 2]), (2000001, [1, 2, 6]), (3000000, [2])]
noncomputable def p_ref15_Center_c : Code := (Go.Proofs.Try.f42).body.getD .skip
noncomputable def p_ref15_Center_l3_S : Shape where
  h := { tmps := [.any, .sc (.ptr 0 0 false), .sc (.ptr 1 0 false), .any, .any, .any, .sc (.int .i64), .any, .any, .any, .any, .any, .any, .any, .any, .any, .any, .any, .any, .any], mem := [.live [.xs (.int .i32) (some 256)] true, .live [.xs (.int .i32) (some 256)] true] }
  ks := [.int, .xs, .xs]
  st := fun x => { tmps := [.one .any, .one (.sc (.ptr 0 0 none)), .one (.sc (.ptr 1 0 none)), .one .any, .one .any, .one .any, .one (.sc (.int .i64 x.1)), .one .any, .one .any, .one .any, .one .any, .one .any, .one .any, .one .any, .one .any, .one .any, .one .any, .one .any, .one .any, .one .any], mem := [.live { segs := [.xs (.int .i32) 256 x.2.1], own := true }, .live { segs := [.xs (.int .i32) 256 x.2.2.1], own := true }] }
noncomputable def p_ref15_Center_l3_F (N : Nat) (β : Type) (x : (Int × List Int × List Int × Unit)) (kn : (Int × List Int × List Int × Unit) → Option β) (ke : ((List Int × List Int × Unit)) → Option β) : Option β :=
  if (x.1 < (256:Int)) then
    if 0 ≤ x.1 then (
    if x.1 < 256 then (
    if (x.1.toNat) < 256 then (
    if ((List.getD x.2.1 (x.1.toNat) 0) > (4190208:Int)) then
      if 0 ≤ x.1 then (
      if x.1 < 256 then (
      if (x.1.toNat) < 256 then (
      if 0 ≤ x.1 then (
      if x.1 < 256 then (
      if (x.1.toNat) < 256 then (
      kn ((IntKind.i64.wrap (x.1 + (1:Int))), (List.set x.2.1 (x.1.toNat) (IntKind.i32.wrap ((List.getD x.2.1 (x.1.toNat) 0) - (8380417:Int)))), x.2.2.1, ())) else none) else none) else none) else none) else none) else none
    else
      kn ((IntKind.i64.wrap (x.1 + (1:Int))), x.2.1, x.2.2.1, ())) else none) else none) else none
  else
    ke (x.2.1, x.2.2.1, ())
noncomputable def p_ref15_Center_l3_go : Go' ((List Int × List Int × Unit)) := fun y K => K (.exit 0) { tmps := [.one .any, .one (.sc (.ptr 0 0 none)), .one (.sc (.ptr 1 0 none)), .one .any, .one .any, .one .any, .one .any, .one .any, .one .any, .one .any, .one .any, .one .any, .one .any, .one .any, .one .any, .one .any, .one .any, .one .any, .one .any, .one .any], mem := [.live { segs := [.xs (.int .i32) 256 y.1], own := true }, .live { segs := [.xs (.int .i32) 256 y.2.1], own := true }] }
noncomputable def p_ref15_Center_l3_L (N : Nat) : LT := upd (LT.nil) 3 (loopE p_ref15_Center_l3_S N (p_ref15_Center_l3_F N) p_ref15_Center_l3_go)
theorem p_ref15_Center_l3_ok (N : Nat) : OkAll p_ref15_Center_E p_ref15_Center_H N (p_ref15_Center_l3_L N) (subs p_ref15_Center_c) :=
  addLoop (c := theLoop 3 p_ref15_Center_c) (OkAll.nil) (by kernel_rfl) (fun x => by kernel_rfl) (fun β x kn ke => by kernel_rfl)
abbrev p_ref15_Center_ks : List Kd := [.xs (.int .i32) 256]
abbrev p_ref15_Center_rs : List Kd := [.xs (.int .i32) 256]
noncomputable def p_ref15_Center (N : Nat) (x : List Int × Unit) : Option (List Int) :=
  (g_ref15_Reduce (x.1, ())).bind fun r1 => (
  iter (p_ref15_Center_l3_F N) N ((0:Int), r1, (List.replicate 256 0), ()) fun y2 => (
  some y2.1))
theorem p_ref15_Center_eq (N : Nat) (x : Ds [.xs (.int .i32) 256]) : funL p_ref15_Center_E p_ref15_Center_H (p_ref15_Center_l3_L N) N Go.Proofs.Try.f42 p_ref15_Center_c [.xs (.int .i32) 256] [.xs (.int .i32) 256] x = p_ref15_Center N x := by kernel_rfl
theorem p_ref15_Center_Eok (he_ref15_Reduce : SigOk Go.Proofs.Try.prog 40 ⟨[.xs (.int .i32) 256], [.xs (.int .i32) 256], g_ref15_Reduce⟩) : p_ref15_Center_E.Ok Go.Proofs.Try.prog := AE.of_ok (all_cons ty21_ok (all_cons ty23_ok all_nil)) (all_cons ⟨he_ref15_Reduce, enters_ref15_Reduce⟩ all_nil)
theorem p_ref15_Center_ok (he_ref15_Reduce : SigOk Go.Proofs.Try.prog 40 ⟨[.xs (.int .i32) 256], [.xs (.int .i32) 256], g_ref15_Reduce⟩) {g : Ds [.xs (.int .i32) 256] → Option (Rs [.xs (.int .i32) 256])} (hg : ∀ x r, g x = some r → ∃ N, p_ref15_Center N x = some r) : SigOk Go.Proofs.Try.prog 42 ⟨[.xs (.int .i32) 256], [.xs (.int .i32) 256], g⟩ :=
  fun_of (E := p_ref15_Center_E) (H := p_ref15_Center_H) (L := fun N => p_ref15_Center_l3_L N) (c := p_ref15_Center_c) (ks := p_ref15_Center_ks) (rs := p_ref15_Center_rs) (F := p_ref15_Center) (p_ref15_Center_Eok he_ref15_Reduce) mix Go.Proofs.Try.func42 (by kernel_rfl) (fun N => p_ref15_Center_l3_ok N) p_ref15_Center_eq hg

/-! livery/dring.Norm -/
noncomputable def p_dring_Norm_E : AE := AE.of [(21, ty21), (23, ty23)] [(41, ⟨[.xs (.int .i32) 256], [.xs (.int .i32) 256], g_dring_Center⟩)]
noncomputable def p_dring_Norm_H : Hints := [(3, [3, 7, 8]), (2000000, [3]), (2000001, [3, 7, 8]), (3000000, [2])]
noncomputable def p_dring_Norm_c : Code := (Go.Proofs.Try.f19).body.getD .skip
noncomputable def p_dring_Norm_l3_S : Shape where
  h := { tmps := [.any, .any, .any, .sc (.int .i32), .any, .any, .any, .agg [.xs (.int .i32) (some 256)], .sc (.int .i64), .any, .any, .any, .any, .any, .any, .any, .any, .any], mem := [] }
  ks := [.int, .xs, .int]
  st := fun x => { tmps := [.one .any, .one .any, .one .any, .one (.sc (.int .i32 x.1)), .one .any, .one .any, .one .any, .one (.agg [.xs (.int .i32) 256 x.2.1]), .one (.sc (.int .i64 x.2.2.1)), .one .any, .one .any, .one .any, .one .any, .one .any, .one .any, .one .any, .one .any, .one .any], mem := [] }
noncomputable def p_dring_Norm_l3_F (N : Nat) (β : Type) (x : (Int × List Int × Int × Unit)) (kn : (Int × List Int × Int × Unit) → Option β) (ke : ((Int × Unit)) → Option β) : Option β :=
  if (x.2.2.1 < (256:Int)) then
    if 0 ≤ x.2.2.1 then (
    if x.2.2.1 < 256 then (
    if (x.2.2.1.toNat) < 256 then (
    kn ((if (IntKind.i32.wrap (0 - (List.getD x.2.1 (x.2.2.1.toNat) 0))) > (if (List.getD x.2.1 (x.2.2.1.toNat) 0) > x.1 then (List.getD x.2.1 (x.2.2.1.toNat) 0) else x.1) then (IntKind.i32.wrap (0 - (List.getD x.2.1 (x.2.2.1.toNat) 0))) else (if (List.getD x.2.1 (x.2.2.1.toNat) 0) > x.1 then (List.getD x.2.1 (x.2.2.1.toNat) 0) else x.1)), x.2.1, (IntKind.i64.wrap (x.2.2.1 + (1:Int))), ())) else none) else none) else none
  else
    ke (x.1, ())
noncomputable def p_dring_Norm_l3_go : Go' ((Int × Unit)) := fun y K => K (.exit 0) { tmps := [.one .any, .one .any, .one .any, .one (.sc (.int .i32 y.1)), .one .any, .one .any, .one .any, .one .any, .one .any, .one .any, .one .any, .one .any, .one .any, .one .any, .one .any, .one .any, .one .any, .one .any], mem := [] }
noncomputable def p_dring_Norm_l3_L (N : Nat) : LT := upd (LT.nil) 3 (loopE p_dring_Norm_l3_S N (p_dring_Norm_l3_F N) p_dring_Norm_l3_go)
theorem p_dring_Norm_l3_ok (N : Nat) : OkAll p_dring_Norm_E p_dring_Norm_H N (p_dring_Norm_l3_L N) (subs p_dring_Norm_c) :=
  addLoop (c := theLoop 3 p_dring_Norm_c) (OkAll.nil) (by kernel_rfl) (fun x => by kernel_rfl) (fun β x kn ke => by kernel_rfl)
abbrev p_dring_Norm_ks : List Kd := [.xs (.int .i32) 256]
abbrev p_dring_Norm_rs : List Kd := [.int .i32]
noncomputable def p_dring_Norm (N : Nat) (x : List Int × Unit) : Option (Int) :=
  (g_dring_Center (x.1, ())).bind fun r1 => (
  iter (p_dring_Norm_l3_F N) N ((0:Int), r1, (0:Int), ()) fun y2 => (
  some y2.1))
theorem p_dring_Norm_eq (N : Nat) (x : Ds [.xs (.int .i32) 256]) : funL p_dring_Norm_E p_dring_Norm_H (p_dring_Norm_l3_L N) N Go.Proofs.Try.f19 p_dring_Norm_c [.xs (.int .i32) 256] [.int .i32] x = p_dring_Norm N x := by kernel_rfl
theorem p_dring_Norm_Eok (he_dring_Center : SigOk Go.Proofs.Try.prog 41 ⟨[.xs (.int .i32) 256], [.xs (.int .i32) 256], g_dring_Center⟩) : p_dring_Norm_E.Ok Go.Proofs.Try.prog := AE.of_ok (all_cons ty21_ok (all_cons ty23_ok all_nil)) (all_cons ⟨he_dring_Center, enters_dring_Center⟩ all_nil)
theorem p_dring_Norm_ok (he_dring_Center : SigOk Go.Proofs.Try.prog 41 ⟨[.xs (.int .i32) 256], [.xs (.int .i32) 256], g_dring_Center⟩) {g : Ds [.xs (.int .i32) 256] → Option (Rs [.int .i32])} (hg : ∀ x r, g x = some r → ∃ N, p_dring_Norm N x = some r) : SigOk Go.Proofs.Try.prog 19 ⟨[.xs (.int .i32) 256], [.int .i32], g⟩ :=
  fun_of (E := p_dring_Norm_E) (H := p_dring_Norm_H) (L := fun N => p_dring_Norm_l3_L N) (c := p_dring_Norm_c) (ks := p_dring_Norm_ks) (rs := p_dring_Norm_rs) (F := p_dring_Norm) (p_dring_Norm_Eok he_dring_Center) mix Go.Proofs.Try.func19 (by kernel_rfl) (fun N => p_dring_Norm_l3_ok N) p_dring_Norm_eq hg

/-! livery/liveryref15.size -/
noncomputable def p_ref15_size_E : AE := AE.of [] []
noncomputable def p_ref15_size_H : Hints := [(3000000, [2])]
noncomputable def p_ref15_size_c : Code := (Go.Proofs.Try.f68).body.getD .skip
abbrev p_ref15_size_ks : List Kd := [.int .i32]
abbrev p_ref15_size_rs : List Kd := [.int .i32]
noncomputable def p_ref15_size (N : Nat) (x : Int × Unit) : Option (Int) :=
  if (x.1 < (0:Int)) then
    some (IntKind.i32.wrap (0 - x.1))
  else
    some x.1
theorem p_ref15_size_eq (N : Nat) (x : Ds [.int .i32]) : funL p_ref15_size_E p_ref15_size_H (LT.nil) N Go.Proofs.Try.f68 p_ref15_size_c [.int .i32] [.int .i32] x = p_ref15_size N x := by kernel_rfl
theorem p_ref15_size_Eok : p_ref15_size_E.Ok Go.Proofs.Try.prog := AE.of_ok all_nil all_nil
theorem p_ref15_size_ok {g : Ds [.int .i32] → Option (Rs [.int .i32])} (hg : ∀ x r, g x = some r → ∃ N, p_ref15_size N x = some r) : SigOk Go.Proofs.Try.prog 68 ⟨[.int .i32], [.int .i32], g⟩ :=
  fun_of (E := p_ref15_size_E) (H := p_ref15_size_H) (L := fun N => LT.nil) (c := p_ref15_size_c) (ks := p_ref15_size_ks) (rs := p_ref15_size_rs) (F := p_ref15_size) (p_ref15_size_Eok) mix Go.Proofs.Try.func68 (by kernel_rfl) (fun N => OkAll.nil) p_ref15_size_eq hg

/-! livery/liveryref15.Norm -/
noncomputable def p_ref15_Norm_E : AE := AE.of [(21, ty21), (23, ty23)] [(42, ⟨[.xs (.int .i32) 256], [.xs (.int .i32) 256], g_ref15_Center⟩), (68, ⟨[.int .i32], [.int .i32], g_ref15_size⟩)]
noncomputable def p_ref15_Norm_H : Hints := [(4, [1, 3, 7]), (2000000, [3]), (2000001, [1, 3, 7]), (3000000, [2])]
noncomputable def p_ref15_Norm_c : Code := (Go.Proofs.Try.f43).body.getD .skip
noncomputable def p_ref15_Norm_l4_S : Shape where
  h := { tmps := [.any, .sc (.ptr 0 0 false), .any, .sc (.int .i32), .any, .any, .any, .sc (.int .i64), .any, .any, .any, .any, .any, .any, .any, .any, .any, .any, .any, .any, .any, .any], mem := [.live [.xs (.int .i32) (some 256)] true] }
  ks := [.int, .int, .xs]
  st := fun x => { tmps := [.one .any, .one (.sc (.ptr 0 0 none)), .one .any, .one (.sc (.int .i32 x.1)), .one .any, .one .any, .one .any, .one (.sc (.int .i64 x.2.1)), .one .any, .one .any, .one .any, .one .any, .one .any, .one .any, .one .any, .one .any, .one .any, .one .any, .one .any, .one .any, .one .any, .one .any], mem := [.live { segs := [.xs (.int .i32) 256 x.2.2.1], own := true }] }
noncomputable def p_ref15_Norm_l4_F (N : Nat) (β : Type) (x : (Int × Int × List Int × Unit)) (kn : (Int × Int × List Int × Unit) → Option β) (ke : ((Int × Unit)) → Option β) : Option β :=
  if (x.2.1 < (256:Int)) then
    if 0 ≤ x.2.1 then (
    if x.2.1 < 256 then (
    if (x.2.1.toNat) < 256 then (
    (g_ref15_size ((List.getD x.2.2.1 (x.2.1.toNat) 0), ())).bind fun r2 => (
    if (r2 > x.1) then
      if 0 ≤ x.2.1 then (
      if x.2.1 < 256 then (
      if (x.2.1.toNat) < 256 then (
      (g_ref15_size ((List.getD x.2.2.1 (x.2.1.toNat) 0), ())).bind fun r3 => (
      kn (r3, (IntKind.i64.wrap (x.2.1 + (1:Int))), x.2.2.1, ()))) else none) else none) else none
    else
      kn (x.1, (IntKind.i64.wrap (x.2.1 + (1:Int))), x.2.2.1, ()))) else none) else none) else none
  else
    ke (x.1, ())
noncomputable def p_ref15_Norm_l4_go : Go' ((Int × Unit)) := fun y K => K (.exit 0) { tmps := [.one .any, .one .any, .one .any, .one (.sc (.int .i32 y.1)), .one .any, .one .any, .one .any, .one .any, .one .any, .one .any, .one .any, .one .any, .one .any, .one .any, .one .any, .one .any, .one .any, .one .any, .one .any, .one .any, .one .any, .one .any], mem := [] }
noncomputable def p_ref15_Norm_l4_L (N : Nat) : LT := upd (LT.nil) 4 (loopE p_ref15_Norm_l4_S N (p_ref15_Norm_l4_F N) p_ref15_Norm_l4_go)
theorem p_ref15_Norm_l4_ok (N : Nat) : OkAll p_ref15_Norm_E p_ref15_Norm_H N (p_ref15_Norm_l4_L N) (subs p_ref15_Norm_c) :=
  addLoop (c := theLoop 4 p_ref15_Norm_c) (OkAll.nil) (by kernel_rfl) (fun x => by kernel_rfl) (fun β x kn ke => by kernel_rfl)
abbrev p_ref15_Norm_ks : List Kd := [.xs (.int .i32) 256]
abbrev p_ref15_Norm_rs : List Kd := [.int .i32]
noncomputable def p_ref15_Norm (N : Nat) (x : List Int × Unit) : Option (Int) :=
  (g_ref15_Center (x.1, ())).bind fun r1 => (
  iter (p_ref15_Norm_l4_F N) N ((0:Int), (0:Int), r1, ()) fun y4 => (
  some y4.1))
theorem p_ref15_Norm_eq (N : Nat) (x : Ds [.xs (.int .i32) 256]) : funL p_ref15_Norm_E p_ref15_Norm_H (p_ref15_Norm_l4_L N) N Go.Proofs.Try.f43 p_ref15_Norm_c [.xs (.int .i32) 256] [.int .i32] x = p_ref15_Norm N x := by kernel_rfl
theorem p_ref15_Norm_Eok (he_ref15_Center : SigOk Go.Proofs.Try.prog 42 ⟨[.xs (.int .i32) 256], [.xs (.int .i32) 256], g_ref15_Center⟩) (he_ref15_size : SigOk Go.Proofs.Try.prog 68 ⟨[.int .i32], [.int .i32], g_ref15_size⟩) : p_ref15_Norm_E.Ok Go.Proofs.Try.prog := AE.of_ok (all_cons ty21_ok (all_cons ty23_ok all_nil)) (all_cons ⟨he_ref15_Center, enters_ref15_Center⟩ (all_cons ⟨he_ref15_size, enters_ref15_size⟩ all_nil))
theorem p_ref15_Norm_ok (he_ref15_Center : SigOk Go.Proofs.Try.prog 42 ⟨[.xs (.int .i32) 256], [.xs (.int .i32) 256], g_ref15_Center⟩) (he_ref15_size : SigOk Go.Proofs.Try.prog 68 ⟨[.int .i32], [.int .i32], g_ref15_size⟩) {g : Ds [.xs (.int .i32) 256] → Option (Rs [.int .i32])} (hg : ∀ x r, g x = some r → ∃ N, p_ref15_Norm N x = some r) : SigOk Go.Proofs.Try.prog 43 ⟨[.xs (.int .i32) 256], [.int .i32], g⟩ :=
  fun_of (E := p_ref15_Norm_E) (H := p_ref15_Norm_H) (L := fun N => p_ref15_Norm_l4_L N) (c := p_ref15_Norm_c) (ks := p_ref15_Norm_ks) (rs := p_ref15_Norm_rs) (F := p_ref15_Norm) (p_ref15_Norm_Eok he_ref15_Center he_ref15_size) mix Go.Proofs.Try.func43 (by kernel_rfl) (fun N => p_ref15_Norm_l4_ok N) p_ref15_Norm_eq hg

/-! livery/dring.Add -/
noncomputable def p_dring_Add_E : AE := AE.of [(2, ty2), (21, ty21), (23, ty23)] [(59, ⟨[.int .i64], [.int .i32], g_dring_below⟩)]
noncomputable def p_dring_Add_H : Hints := [(2, [2, 3, 4, 6]), (2000000, [2, 4]), (2000001, [2, 3, 4, 6]), (3000000, [4])]
noncomputable def p_dring_Add_c : Code := (Go.Proofs.Try.f24).body.getD .skip
noncomputable def p_dring_Add_l2_S : Shape where
  h := { tmps := [.any, .any, .sc (.ptr 0 0 false), .sc (.ptr 1 0 false), .sc (.ptr 2 0 false), .any, .sc (.int .i64), .any, .any, .any, .any, .any, .any, .any, .any, .any, .any, .any, .any, .any, .any, .any, .any], mem := [.live [.xs (.int .i32) (some 256)] true, .live [.xs (.int .i32) (some 256)] true, .live [.xs (.int .i32) (some 256)] true] }
  ks := [.int, .xs, .xs, .xs]
  st := fun x => { tmps := [.one .any, .one .any, .one (.sc (.ptr 0 0 none)), .one (.sc (.ptr 1 0 none)), .one (.sc (.ptr 2 0 none)), .one .any, .one (.sc (.int .i64 x.1)), .one .any, .one .any, .one .any, .one .any, .one .any, .one .any, .one .any, .one .any, .one .any, .one .any, .one .any, .one .any, .one .any, .one .any, .one .any, .one .any], mem := [.live { segs := [.xs (.int .i32) 256 x.2.1], own := true }, .live { segs := [.xs (.int .i32) 256 x.2.2.1], own := true }, .live { segs := [.xs (.int .i32) 256 x.2.2.2.1], own := true }] }
noncomputable def p_dring_Add_l2_F (N : Nat) (β : Type) (x : (Int × List Int × List Int × List Int × Unit)) (kn : (Int × List Int × List Int × List Int × Unit) → Option β) (ke : ((List Int × List Int × Unit)) → Option β) : Option β :=
  if (x.1 < (256:Int)) then
    if 0 ≤ x.1 then (
    if x.1 < 256 then (
    if (x.1.toNat) < 256 then (
    if 0 ≤ x.1 then (
    if x.1 < 256 then (
    if (x.1.toNat) < 256 then (
    (g_dring_below ((IntKind.i64.wrap ((IntKind.i64.wrap (List.getD x.2.1 (x.1.toNat) 0)) + (IntKind.i64.wrap (List.getD x.2.2.1 (x.1.toNat) 0)))), ())).bind fun r1 => (
    if 0 ≤ x.1 then (
    if x.1 < 256 then (
    if (x.1.toNat) < 256 then (
    kn ((IntKind.i64.wrap (x.1 + (1:Int))), (List.set x.2.1 (x.1.toNat) r1), x.2.2.1, x.2.2.2.1, ())) else none) else none) else none)) else none) else none) else none) else none) else none) else none
  else
    ke (x.2.1, x.2.2.2.1, ())
noncomputable def p_dring_Add_l2_go : Go' ((List Int × List Int × Unit)) := fun y K => K (.exit 0) { tmps := [.one .any, .one .any, .one (.sc (.ptr 0 0 none)), .one .any, .one (.sc (.ptr 1 0 none)), .one .any, .one .any, .one .any, .one .any, .one .any, .one .any, .one .any, .one .any, .one .any, .one .any, .one .any, .one .any, .one .any, .one .any, .one .any, .one .any, .one .any, .one .any], mem := [.live { segs := [.xs (.int .i32) 256 y.1], own := true }, .live { segs := [.xs (.int .i32) 256 y.2.1], own := true }] }
noncomputable def p_dring_Add_l2_L (N : Nat) : LT := upd (LT.nil) 2 (loopE p_dring_Add_l2_S N (p_dring_Add_l2_F N) p_dring_Add_l2_go)
theorem p_dring_Add_l2_ok (N : Nat) : OkAll p_dring_Add_E p_dring_Add_H N (p_dring_Add_l2_L N) (subs p_dring_Add_c) :=
  addLoop (c := theLoop 2 p_dring_Add_c) (OkAll.nil) (by kernel_rfl) (fun x => by kernel_rfl) (fun β x kn ke => by kernel_rfl)
abbrev p_dring_Add_ks : List Kd := [.xs (.int .i32) 256, .xs (.int .i32) 256]
abbrev p_dring_Add_rs : List Kd := [.xs (.int .i32) 256]
noncomputable def p_dring_Add (N : Nat) (x : List Int × List Int × Unit) : Option (List Int) :=
  iter (p_dring_Add_l2_F N) N ((0:Int), x.1, x.2.1, (List.replicate 256 0), ()) fun y2 => (
  some y2.1)
theorem p_dring_Add_eq (N : Nat) (x : Ds [.xs (.int .i32) 256, .xs (.int .i32) 256]) : funL p_dring_Add_E p_dring_Add_H (p_dring_Add_l2_L N) N Go.Proofs.Try.f24 p_dring_Add_c [.xs (.int .i32) 256, .xs (.int .i32) 256] [.xs (.int .i32) 256] x = p_dring_Add N x := by kernel_rfl
theorem p_dring_Add_Eok (he_dring_below : SigOk Go.Proofs.Try.prog 59 ⟨[.int .i64], [.int .i32], g_dring_below⟩) : p_dring_Add_E.Ok Go.Proofs.Try.prog := AE.of_ok (all_cons ty2_ok (all_cons ty21_ok (all_cons ty23_ok all_nil))) (all_cons ⟨he_dring_below, enters_dring_below⟩ all_nil)
theorem p_dring_Add_ok (he_dring_below : SigOk Go.Proofs.Try.prog 59 ⟨[.int .i64], [.int .i32], g_dring_below⟩) {g : Ds [.xs (.int .i32) 256, .xs (.int .i32) 256] → Option (Rs [.xs (.int .i32) 256])} (hg : ∀ x r, g x = some r → ∃ N, p_dring_Add N x = some r) : SigOk Go.Proofs.Try.prog 24 ⟨[.xs (.int .i32) 256, .xs (.int .i32) 256], [.xs (.int .i32) 256], g⟩ :=
  fun_of (E := p_dring_Add_E) (H := p_dring_Add_H) (L := fun N => p_dring_Add_l2_L N) (c := p_dring_Add_c) (ks := p_dring_Add_ks) (rs := p_dring_Add_rs) (F := p_dring_Add) (p_dring_Add_Eok he_dring_below) mix Go.Proofs.Try.func24 (by kernel_rfl) (fun N => p_dring_Add_l2_ok N) p_dring_Add_eq hg

/-! livery/liveryref15.Add -/
noncomputable def p_ref15_Add_E : AE := AE.of [(2, ty2), (21, ty21), (23, ty23)] [(66, ⟨[.int .i64], [.int .i64], g_ref15_mod⟩)]
noncomputable def p_ref15_Add_H : Hints := [(2, [2, 3, 4, 6]), (2000000, [2, 4]), (2000001, [2, 3, 4, 6]), (3000000, [4])]
noncomputable def p_ref15_Add_c : Code := (Go.Proofs.Try.f44).body.getD .skip
noncomputable def p_ref15_Add_l2_S : Shape where
  h := { tmps := [.any, .any, .sc (.ptr 0 0 false), .sc (.ptr 1 0 false), .sc (.ptr 2 0 false), .any, .sc (.int .i64), .any, .any, .any, .any, .any, .any, .any, .any, .any, .any, .any, .any, .any, .any, .any, .any, .any], mem := [.live [.xs (.int .i32) (some 256)] true, .live [.xs (.int .i32) (some 256)] true, .live [.xs (.int .i32) (some 256)] true] }
  ks := [.int, .xs, .xs, .xs]
  st := fun x => { tmps := [.one .any, .one .any, .one (.sc (.ptr 0 0 none)), .one (.sc (.ptr 1 0 none)), .one (.sc (.ptr 2 0 none)), .one .any, .one (.sc (.int .i64 x.1)), .one .any, .one .any, .one .any, .one .any, .one .any, .one .any, .one .any, .one .any, .one .any, .one .any, .one .any, .one .any, .one .any, .one .any, .one .any, .one .any, .one .any], mem := [.live { segs := [.xs (.int .i32) 256 x.2.1], own := true }, .live { segs := [.xs (.int .i32) 256 x.2.2.1], own := true }, .live { segs := [.xs (.int .i32) 256 x.2.2.2.1], own := true }] }
noncomputable def p_ref15_Add_l2_F (N : Nat) (β : Type) (x : (Int × List Int × List Int × List Int × Unit)) (kn : (Int × List Int × List Int × List Int × Unit) → Option β) (ke : ((List Int × List Int × Unit)) → Option β) : Option β :=
  if (x.1 < (256:Int)) then
    if 0 ≤ x.1 then (
    if x.1 < 256 then (
    if (x.1.toNat) < 256 then (
    if 0 ≤ x.1 then (
    if x.1 < 256 then (
    if (x.1.toNat) < 256 then (
    (g_ref15_mod ((IntKind.i64.wrap ((IntKind.i64.wrap (List.getD x.2.1 (x.1.toNat) 0)) + (IntKind.i64.wrap (List.getD x.2.2.1 (x.1.toNat) 0)))), ())).bind fun r1 => (
    if 0 ≤ x.1 then (
    if x.1 < 256 then (
    if (x.1.toNat) < 256 then (
    kn ((IntKind.i64.wrap (x.1 + (1:Int))), (List.set x.2.1 (x.1.toNat) (IntKind.i32.wrap r1)), x.2.2.1, x.2.2.2.1, ())) else none) else none) else none)) else none) else none) else none) else none) else none) else none
  else
    ke (x.2.1, x.2.2.2.1, ())
noncomputable def p_ref15_Add_l2_go : Go' ((List Int × List Int × Unit)) := fun y K => K (.exit 0) { tmps := [.one .any, .one .any, .one (.sc (.ptr 0 0 none)), .one .any, .one (.sc (.ptr 1 0 none)), .one .any, .one .any, .one .any, .one .any, .one .any, .one .any, .one .any, .one .any, .one .any, .one .any, .one .any, .one .any, .one .any, .one .any, .one .any, .one .any, .one .any, .one .any, .one .any], mem := [.live { segs := [.xs (.int .i32) 256 y.1], own := true }, .live { segs := [.xs (.int .i32) 256 y.2.1], own := true }] }
noncomputable def p_ref15_Add_l2_L (N : Nat) : LT := upd (LT.nil) 2 (loopE p_ref15_Add_l2_S N (p_ref15_Add_l2_F N) p_ref15_Add_l2_go)
theorem p_ref15_Add_l2_ok (N : Nat) : OkAll p_ref15_Add_E p_ref15_Add_H N (p_ref15_Add_l2_L N) (subs p_ref15_Add_c) :=
  addLoop (c := theLoop 2 p_ref15_Add_c) (OkAll.nil) (by kernel_rfl) (fun x => by kernel_rfl) (fun β x kn ke => by kernel_rfl)
abbrev p_ref15_Add_ks : List Kd := [.xs (.int .i32) 256, .xs (.int .i32) 256]
abbrev p_ref15_Add_rs : List Kd := [.xs (.int .i32) 256]
noncomputable def p_ref15_Add (N : Nat) (x : List Int × List Int × Unit) : Option (List Int) :=
  iter (p_ref15_Add_l2_F N) N ((0:Int), x.1, x.2.1, (List.replicate 256 0), ()) fun y2 => (
  some y2.1)
theorem p_ref15_Add_eq (N : Nat) (x : Ds [.xs (.int .i32) 256, .xs (.int .i32) 256]) : funL p_ref15_Add_E p_ref15_Add_H (p_ref15_Add_l2_L N) N Go.Proofs.Try.f44 p_ref15_Add_c [.xs (.int .i32) 256, .xs (.int .i32) 256] [.xs (.int .i32) 256] x = p_ref15_Add N x := by kernel_rfl
theorem p_ref15_Add_Eok (he_ref15_mod : SigOk Go.Proofs.Try.prog 66 ⟨[.int .i64], [.int .i64], g_ref15_mod⟩) : p_ref15_Add_E.Ok Go.Proofs.Try.prog := AE.of_ok (all_cons ty2_ok (all_cons ty21_ok (all_cons ty23_ok all_nil))) (all_cons ⟨he_ref15_mod, enters_ref15_mod⟩ all_nil)
theorem p_ref15_Add_ok (he_ref15_mod : SigOk Go.Proofs.Try.prog 66 ⟨[.int .i64], [.int .i64], g_ref15_mod⟩) {g : Ds [.xs (.int .i32) 256, .xs (.int .i32) 256] → Option (Rs [.xs (.int .i32) 256])} (hg : ∀ x r, g x = some r → ∃ N, p_ref15_Add N x = some r) : SigOk Go.Proofs.Try.prog 44 ⟨[.xs (.int .i32) 256, .xs (.int .i32) 256], [.xs (.int .i32) 256], g⟩ :=
  fun_of (E := p_ref15_Add_E) (H := p_ref15_Add_H) (L := fun N => p_ref15_Add_l2_L N) (c := p_ref15_Add_c) (ks := p_ref15_Add_ks) (rs := p_ref15_Add_rs) (F := p_ref15_Add) (p_ref15_Add_Eok he_ref15_mod) mix Go.Proofs.Try.func44 (by kernel_rfl) (fun N => p_ref15_Add_l2_ok N) p_ref15_Add_eq hg

/-! livery/dring.Sub -/
noncomputable def p_dring_Sub_E : AE := AE.of [(2, ty2), (21, ty21), (23, ty23)] [(59, ⟨[.int .i64], [.int .i32], g_dring_below⟩)]
noncomputable def p_dring_Sub_H : Hints := [(2, [2, 3, 4, 6]), (2000000, [2, 4]), (2000001, [2, 3, 4, 6]), (3000000, [4])]
noncomputable def p_dring_Sub_c : Code := (Go.Proofs.Try.f39).body.getD .skip
noncomputable def p_dring_Sub_l2_S : Shape where
  h := { tmps := [.any, .any, .sc (.ptr 0 0 false), .sc (.ptr 1 0 false), .sc (.ptr 2 0 false), .any, .sc (.int .i64), .any, .any, .any, .any, .any, .any, .any, .any, .any, .any, .any, .any, .any, .any, .any, .any], mem := [.live [.xs (.int .i32) (some 256)] true, .live [.xs (.int .i32) (some 256)] true, .live [.xs (.int .i32) (some 256)] true] }
  ks := [.int, .xs, .xs, .xs]
  st := fun x => { tmps := [.one .any, .one .any, .one (.sc (.ptr 0 0 none)), .one (.sc (.ptr 1 0 none)), .one (.sc (.ptr 2 0 none)), .one .any, .one (.sc (.int .i64 x.1)), .one .any, .one .any, .one .any, .one .any, .one .any, .one .any, .one .any, .one .any, .one .any, .one .any, .one .any, .one .any, .one .any, .one .any, .one .any, .one .any], mem := [.live { segs := [.xs (.int .i32) 256 x.2.1], own := true }, .live { segs := [.xs (.int .i32) 256 x.2.2.1], own := true }, .live { segs := [.xs (.int .i32) 256 x.2.2.2.1], own := true }] }
noncomputable def p_dring_Sub_l2_F (N : Nat) (β : Type) (x : (Int × List Int × List Int × List Int × Unit)) (kn : (Int × List Int × List Int × List Int × Unit) → Option β) (ke : ((List Int × List Int × Unit)) → Option β) : Option β :=
  if (x.1 < (256:Int)) then
    if 0 ≤ x.1 then (
    if x.1 < 256 then (
    if (x.1.toNat) < 256 then (
    if 0 ≤ x.1 then (
    if x.1 < 256 then (
    if (x.1.toNat) < 256 then (
    (g_dring_below ((IntKind.i64.wrap ((IntKind.i64.wrap (List.getD x.2.1 (x.1.toNat) 0)) - (IntKind.i64.wrap (List.getD x.2.2.1 (x.1.toNat) 0)))), ())).bind fun r1 => (
    if 0 ≤ x.1 then (
    if x.1 < 256 then (
    if (x.1.toNat) < 256 then (
    kn ((IntKind.i64.wrap (x.1 + (1:Int))), (List.set x.2.1 (x.1.toNat) r1), x.2.2.1, x.2.2.2.1, ())) else none) else none) else none)) else none) else none) else none) else none) else none) else none
  else
    ke (x.2.1, x.2.2.2.1, ())
noncomputable def p_dring_Sub_l2_go : Go' ((List Int × List Int × Unit)) := fun y K => K (.exit 0) { tmps := [.one .any, .one .any, .one (.sc (.ptr 0 0 none)), .one .any, .one (.sc (.ptr 1 0 none)), .one .any, .one .any, .one .any, .one .any, .one .any, .one .any, .one .any, .one .any, .one .any, .one .any, .one .any, .one .any, .one .any, .one .any, .one .any, .one .any, .one .any, .one .any], mem := [.live { segs := [.xs (.int .i32) 256 y.1], own := true }, .live { segs := [.xs (.int .i32) 256 y.2.1], own := true }] }
noncomputable def p_dring_Sub_l2_L (N : Nat) : LT := upd (LT.nil) 2 (loopE p_dring_Sub_l2_S N (p_dring_Sub_l2_F N) p_dring_Sub_l2_go)
theorem p_dring_Sub_l2_ok (N : Nat) : OkAll p_dring_Sub_E p_dring_Sub_H N (p_dring_Sub_l2_L N) (subs p_dring_Sub_c) :=
  addLoop (c := theLoop 2 p_dring_Sub_c) (OkAll.nil) (by kernel_rfl) (fun x => by kernel_rfl) (fun β x kn ke => by kernel_rfl)
abbrev p_dring_Sub_ks : List Kd := [.xs (.int .i32) 256, .xs (.int .i32) 256]
abbrev p_dring_Sub_rs : List Kd := [.xs (.int .i32) 256]
noncomputable def p_dring_Sub (N : Nat) (x : List Int × List Int × Unit) : Option (List Int) :=
  iter (p_dring_Sub_l2_F N) N ((0:Int), x.1, x.2.1, (List.replicate 256 0), ()) fun y2 => (
  some y2.1)
theorem p_dring_Sub_eq (N : Nat) (x : Ds [.xs (.int .i32) 256, .xs (.int .i32) 256]) : funL p_dring_Sub_E p_dring_Sub_H (p_dring_Sub_l2_L N) N Go.Proofs.Try.f39 p_dring_Sub_c [.xs (.int .i32) 256, .xs (.int .i32) 256] [.xs (.int .i32) 256] x = p_dring_Sub N x := by kernel_rfl
theorem p_dring_Sub_Eok (he_dring_below : SigOk Go.Proofs.Try.prog 59 ⟨[.int .i64], [.int .i32], g_dring_below⟩) : p_dring_Sub_E.Ok Go.Proofs.Try.prog := AE.of_ok (all_cons ty2_ok (all_cons ty21_ok (all_cons ty23_ok all_nil))) (all_cons ⟨he_dring_below, enters_dring_below⟩ all_nil)
theorem p_dring_Sub_ok (he_dring_below : SigOk Go.Proofs.Try.prog 59 ⟨[.int .i64], [.int .i32], g_dring_below⟩) {g : Ds [.xs (.int .i32) 256, .xs (.int .i32) 256] → Option (Rs [.xs (.int .i32) 256])} (hg : ∀ x r, g x = some r → ∃ N, p_dring_Sub N x = some r) : SigOk Go.Proofs.Try.prog 39 ⟨[.xs (.int .i32) 256, .xs (.int .i32) 256], [.xs (.int .i32) 256], g⟩ :=
  fun_of (E := p_dring_Sub_E) (H := p_dring_Sub_H) (L := fun N => p_dring_Sub_l2_L N) (c := p_dring_Sub_c) (ks := p_dring_Sub_ks) (rs := p_dring_Sub_rs) (F := p_dring_Sub) (p_dring_Sub_Eok he_dring_below) mix Go.Proofs.Try.func39 (by kernel_rfl) (fun N => p_dring_Sub_l2_ok N) p_dring_Sub_eq hg

/-! livery/liveryref15.Sub -/
noncomputable def p_ref15_Sub_E : AE := AE.of [(2, ty2), (21, ty21), (23, ty23)] [(66, ⟨[.int .i64], [.int .i64], g_ref15_mod⟩)]
noncomputable def p_ref15_Sub_H : Hints := [(2, [2, 3, 4, 6]), (2000000, [2, 4]), (2000001, [2, 3, 4, 6]), (3000000, [4])]
noncomputable def p_ref15_Sub_c : Code := (Go.Proofs.Try.f45).body.getD .skip
noncomputable def p_ref15_Sub_l2_S : Shape where
  h := { tmps := [.any, .any, .sc (.ptr 0 0 false), .sc (.ptr 1 0 false), .sc (.ptr 2 0 false), .any, .sc (.int .i64), .any, .any, .any, .any, .any, .any, .any, .any, .any, .any, .any, .any, .any, .any, .any, .any, .any], mem := [.live [.xs (.int .i32) (some 256)] true, .live [.xs (.int .i32) (some 256)] true, .live [.xs (.int .i32) (some 256)] true] }
  ks := [.int, .xs, .xs, .xs]
  st := fun x => { tmps := [.one .any, .one .any, .one (.sc (.ptr 0 0 none)), .one (.sc (.ptr 1 0 none)), .one (.sc (.ptr 2 0 none)), .one .any, .one (.sc (.int .i64 x.1)), .one .any, .one .any, .one .any, .one .any, .one .any, .one .any, .one .any, .one .any, .one .any, .one .any, .one .any, .one .any, .one .any, .one .any, .one .any, .one .any, .one .any], mem := [.live { segs := [.xs (.int .i32) 256 x.2.1], own := true }, .live { segs := [.xs (.int .i32) 256 x.2.2.1], own := true }, .live { segs := [.xs (.int .i32) 256 x.2.2.2.1], own := true }] }
noncomputable def p_ref15_Sub_l2_F (N : Nat) (β : Type) (x : (Int × List Int × List Int × List Int × Unit)) (kn : (Int × List Int × List Int × List Int × Unit) → Option β) (ke : ((List Int × List Int × Unit)) → Option β) : Option β :=
  if (x.1 < (256:Int)) then
    if 0 ≤ x.1 then (
    if x.1 < 256 then (
    if (x.1.toNat) < 256 then (
    if 0 ≤ x.1 then (
    if x.1 < 256 then (
    if (x.1.toNat) < 256 then (
    (g_ref15_mod ((IntKind.i64.wrap ((IntKind.i64.wrap (List.getD x.2.1 (x.1.toNat) 0)) - (IntKind.i64.wrap (List.getD x.2.2.1 (x.1.toNat) 0)))), ())).bind fun r1 => (
    if 0 ≤ x.1 then (
    if x.1 < 256 then (
    if (x.1.toNat) < 256 then (
    kn ((IntKind.i64.wrap (x.1 + (1:Int))), (List.set x.2.1 (x.1.toNat) (IntKind.i32.wrap r1)), x.2.2.1, x.2.2.2.1, ())) else none) else none) else none)) else none) else none) else none) else none) else none) else none
  else
    ke (x.2.1, x.2.2.2.1, ())
noncomputable def p_ref15_Sub_l2_go : Go' ((List Int × List Int × Unit)) := fun y K => K (.exit 0) { tmps := [.one .any, .one .any, .one (.sc (.ptr 0 0 none)), .one .any, .one (.sc (.ptr 1 0 none)), .one .any, .one .any, .one .any, .one .any, .one .any, .one .any, .one .any, .one .any, .one .any, .one .any, .one .any, .one .any, .one .any, .one .any, .one .any, .one .any, .one .any, .one .any, .one .any], mem := [.live { segs := [.xs (.int .i32) 256 y.1], own := true }, .live { segs := [.xs (.int .i32) 256 y.2.1], own := true }] }
noncomputable def p_ref15_Sub_l2_L (N : Nat) : LT := upd (LT.nil) 2 (loopE p_ref15_Sub_l2_S N (p_ref15_Sub_l2_F N) p_ref15_Sub_l2_go)
theorem p_ref15_Sub_l2_ok (N : Nat) : OkAll p_ref15_Sub_E p_ref15_Sub_H N (p_ref15_Sub_l2_L N) (subs p_ref15_Sub_c) :=
  addLoop (c := theLoop 2 p_ref15_Sub_c) (OkAll.nil) (by kernel_rfl) (fun x => by kernel_rfl) (fun β x kn ke => by kernel_rfl)
abbrev p_ref15_Sub_ks : List Kd := [.xs (.int .i32) 256, .xs (.int .i32) 256]
abbrev p_ref15_Sub_rs : List Kd := [.xs (.int .i32) 256]
noncomputable def p_ref15_Sub (N : Nat) (x : List Int × List Int × Unit) : Option (List Int) :=
  iter (p_ref15_Sub_l2_F N) N ((0:Int), x.1, x.2.1, (List.replicate 256 0), ()) fun y2 => (
  some y2.1)
theorem p_ref15_Sub_eq (N : Nat) (x : Ds [.xs (.int .i32) 256, .xs (.int .i32) 256]) : funL p_ref15_Sub_E p_ref15_Sub_H (p_ref15_Sub_l2_L N) N Go.Proofs.Try.f45 p_ref15_Sub_c [.xs (.int .i32) 256, .xs (.int .i32) 256] [.xs (.int .i32) 256] x = p_ref15_Sub N x := by kernel_rfl
theorem p_ref15_Sub_Eok (he_ref15_mod : SigOk Go.Proofs.Try.prog 66 ⟨[.int .i64], [.int .i64], g_ref15_mod⟩) : p_ref15_Sub_E.Ok Go.Proofs.Try.prog := AE.of_ok (all_cons ty2_ok (all_cons ty21_ok (all_cons ty23_ok all_nil))) (all_cons ⟨he_ref15_mod, enters_ref15_mod⟩ all_nil)
theorem p_ref15_Sub_ok (he_ref15_mod : SigOk Go.Proofs.Try.prog 66 ⟨[.int .i64], [.int .i64], g_ref15_mod⟩) {g : Ds [.xs (.int .i32) 256, .xs (.int .i32) 256] → Option (Rs [.xs (.int .i32) 256])} (hg : ∀ x r, g x = some r → ∃ N, p_ref15_Sub N x = some r) : SigOk Go.Proofs.Try.prog 45 ⟨[.xs (.int .i32) 256, .xs (.int .i32) 256], [.xs (.int .i32) 256], g⟩ :=
  fun_of (E := p_ref15_Sub_E) (H := p_ref15_Sub_H) (L := fun N => p_ref15_Sub_l2_L N) (c := p_ref15_Sub_c) (ks := p_ref15_Sub_ks) (rs := p_ref15_Sub_rs) (F := p_ref15_Sub) (p_ref15_Sub_Eok he_ref15_mod) mix Go.Proofs.Try.func45 (by kernel_rfl) (fun N => p_ref15_Sub_l2_ok N) p_ref15_Sub_eq hg

/-! livery/dring.MakeHint -/
noncomputable def p_dring_MakeHint_E : AE := AE.of [(4, ty4), (21, ty21), (23, ty23), (31, ty31)] [(15, ⟨[.xs (.int .i32) 256], [.xs (.int .i32) 256, .xs (.int .i32) 256], g_dring_Decompose⟩), (24, ⟨[.xs (.int .i32) 256, .xs (.int .i32) 256], [.xs (.int .i32) 256], g_dring_Add⟩)]
noncomputable def p_dring_MakeHint_H : Hints := [(6, [4, 6, 7, 9, 11, 25]), (2000000, [4, 6, 11]), (2000001, [4, 6, 7, 9, 11, 25]), (3000000, [4, 5])]
noncomputable def p_dring_MakeHint_c : Code := (Go.Proofs.Try.f20).body.getD .skip
noncomputable def p_dring_MakeHint_l6_S : Shape where
  h := { tmps := [.any, .any, .any, .any, .sc (.ptr 0 0 false), .any, .sc (.ptr 1 0 false), .sc (.ptr 2 0 false), .any, .sc (.ptr 3 0 false), .any, .sc (.int .i64), .any, .any, .any, .any, .any, .any, .any, .any, .any, .any, .any, .any, .any, .sc (.int .i64), .any, .any, .any, .any, .any, .any, .any, .any, .any, .any, .any, .any, .any, .any, .any, .any, .any, .any, .any], mem := [.live [.xs .bool (some 256)] true, .live [.xs .bool (some 256)] true, .live [.xs (.int .i32) (some 256)] true, .live [.xs (.int .i32) (some 256)] true] }
  ks := [.int, .int, .xs, .xs, .xs, .xs]
  st := fun x => { tmps := [.one .any, .one .any, .one .any, .one .any, .one (.sc (.ptr 0 0 none)), .one .any, .one (.sc (.ptr 1 0 none)), .one (.sc (.ptr 2 0 none)), .one .any, .one (.sc (.ptr 3 0 none)), .one .any, .one (.sc (.int .i64 x.1)), .one .any, .one .any, .one .any, .one .any, .one .any, .one .any, .one .any, .one .any, .one .any, .one .any, .one .any, .one .any, .one .any, .one (.sc (.int .i64 x.2.1)), .one .any, .one .any, .one .any, .one .any, .one .any, .one .any, .one .any, .one .any, .one .any, .one .any, .one .any, .one .any, .one .any, .one .any, .one .any, .one .any, .one .any, .one .any, .one .any], mem := [.live { segs := [.xs .bool 256 x.2.2.1], own := true }, .live { segs := [.xs .bool 256 x.2.2.2.1], own := true }, .live { segs := [.xs (.int .i32) 256 x.2.2.2.2.1], own := true }, .live { segs := [.xs (.int .i32) 256 x.2.2.2.2.2.1], own := true }] }
noncomputable def p_dring_MakeHint_l6_F (N : Nat) (β : Type) (x : (Int × Int × List Int × List Int × List Int × List Int × Unit)) (kn : (Int × Int × List Int × List Int × List Int × List Int × Unit) → Option β) (ke : ((Int × List Int × List Int × Unit)) → Option β) : Option β :=
  if (x.2.1 < (256:Int)) then
    if 0 ≤ x.2.1 then (
    if x.2.1 < 256 then (
    if (x.2.1.toNat) < 256 then (
    if 0 ≤ x.2.1 then (
    if x.2.1 < 256 then (
    if (x.2.1.toNat) < 256 then (
    if 0 ≤ x.2.1 then (
    if x.2.1 < 256 then (
    if (x.2.1.toNat) < 256 then (
    if 0 ≤ x.2.1 then (
    if x.2.1 < 256 then (
    if (x.2.1.toNat) < 256 then (
    if ((List.getD (List.set x.2.2.2.1 (x.2.1.toNat) (if ((List.getD x.2.2.2.2.1 (x.2.1.toNat) 0) ≠ (List.getD x.2.2.2.2.2.1 (x.2.1.toNat) 0)) then (1:Int) else 0)) (x.2.1.toNat) 0) ≠ 0) then
      kn ((IntKind.i64.wrap (x.1 + (1:Int))), (IntKind.i64.wrap (x.2.1 + (1:Int))), x.2.2.1, (List.set x.2.2.2.1 (x.2.1.toNat) (if ((List.getD x.2.2.2.2.1 (x.2.1.toNat) 0) ≠ (List.getD x.2.2.2.2.2.1 (x.2.1.toNat) 0)) then (1:Int) else 0)), x.2.2.2.2.1, x.2.2.2.2.2.1, ())
    else
      kn (x.1, (IntKind.i64.wrap (x.2.1 + (1:Int))), x.2.2.1, (List.set x.2.2.2.1 (x.2.1.toNat) (if ((List.getD x.2.2.2.2.1 (x.2.1.toNat) 0) ≠ (List.getD x.2.2.2.2.2.1 (x.2.1.toNat) 0)) then (1:Int) else 0)), x.2.2.2.2.1, x.2.2.2.2.2.1, ())) else none) else none) else none) else none) else none) else none) else none) else none) else none) else none) else none) else none
  else
    ke (x.1, x.2.2.1, x.2.2.2.1, ())
noncomputable def p_dring_MakeHint_l6_go : Go' ((Int × List Int × List Int × Unit)) := fun y K => K (.exit 0) { tmps := [.one .any, .one .any, .one .any, .one .any, .one (.sc (.ptr 0 0 none)), .one .any, .one (.sc (.ptr 1 0 none)), .one .any, .one .any, .one .any, .one .any, .one (.sc (.int .i64 y.1)), .one .any, .one .any, .one .any, .one .any, .one .any, .one .any, .one .any, .one .any, .one .any, .one .any, .one .any, .one .any, .one .any, .one .any, .one .any, .one .any, .one .any, .one .any, .one .any, .one .any, .one .any, .one .any, .one .any, .one .any, .one .any, .one .any, .one .any, .one .any, .one .any, .one .any, .one .any, .one .any, .one .any], mem := [.live { segs := [.xs .bool 256 y.2.1], own := true }, .live { segs := [.xs .bool 256 y.2.2.1], own := true }] }
noncomputable def p_dring_MakeHint_l6_L (N : Nat) : LT := upd (LT.nil) 6 (loopE p_dring_MakeHint_l6_S N (p_dring_MakeHint_l6_F N) p_dring_MakeHint_l6_go)
theorem p_dring_MakeHint_l6_ok (N : Nat) : OkAll p_dring_MakeHint_E p_dring_MakeHint_H N (p_dring_MakeHint_l6_L N) (subs p_dring_MakeHint_c) :=
  addLoop (c := theLoop 6 p_dring_MakeHint_c) (OkAll.nil) (by kernel_rfl) (fun x => by kernel_rfl) (fun β x kn ke => by kernel_rfl)
abbrev p_dring_MakeHint_ks : List Kd := [.xs (.int .i32) 256, .xs (.int .i32) 256]
abbrev p_dring_MakeHint_rs : List Kd := [.xs .bool 256, .int .i64]
noncomputable def p_dring_MakeHint (N : Nat) (x : List Int × List Int × Unit) : Option (List Int × Int) :=
  (g_dring_Decompose (x.2.1, ())).bind fun r1 => (
  (g_dring_Add (x.2.1, x.1, ())).bind fun r2 => (
  (g_dring_Decompose (r2, ())).bind fun r3 => (
  iter (p_dring_MakeHint_l6_F N) N ((0:Int), (0:Int), (List.replicate 256 0), (List.replicate 256 0), r1.1, r3.1, ()) fun y4 => (
  some (y4.2.2.1, y4.1)))))
theorem p_dring_MakeHint_eq (N : Nat) (x : Ds [.xs (.int .i32) 256, .xs (.int .i32) 256]) : funL p_dring_MakeHint_E p_dring_MakeHint_H (p_dring_MakeHint_l6_L N) N Go.Proofs.Try.f20 p_dring_MakeHint_c [.xs (.int .i32) 256, .xs (.int .i32) 256] [.xs .bool 256, .int .i64] x = p_dring_MakeHint N x := by kernel_rfl
theorem p_dring_MakeHint_Eok (he_dring_Decompose : SigOk Go.Proofs.Try.prog 15 ⟨[.xs (.int .i32) 256], [.xs (.int .i32) 256, .xs (.int .i32) 256], g_dring_Decompose⟩) (he_dring_Add : SigOk Go.Proofs.Try.prog 24 ⟨[.xs (.int .i32) 256, .xs (.int .i32) 256], [.xs (.int .i32) 256], g_dring_Add⟩) : p_dring_MakeHint_E.Ok Go.Proofs.Try.prog := AE.of_ok (all_cons ty4_ok (all_cons ty21_ok (all_cons ty23_ok (all_cons ty31_ok all_nil)))) (all_cons ⟨he_dring_Decompose, enters_dring_Decompose⟩ (all_cons ⟨he_dring_Add, enters_dring_Add⟩ all_nil))
theorem p_dring_MakeHint_ok (he_dring_Decompose : SigOk Go.Proofs.Try.prog 15 ⟨[.xs (.int .i32) 256], [.xs (.int .i32) 256, .xs (.int .i32) 256], g_dring_Decompose⟩) (he_dring_Add : SigOk Go.Proofs.Try.prog 24 ⟨[.xs (.int .i32) 256, .xs (.int .i32) 256], [.xs (.int .i32) 256], g_dring_Add⟩) {g : Ds [.xs (.int .i32) 256, .xs (.int .i32) 256] → Option (Rs [.xs .bool 256, .int .i64])} (hg : ∀ x r, g x = some r → ∃ N, p_dring_MakeHint N x = some r) : SigOk Go.Proofs.Try.prog 20 ⟨[.xs (.int .i32) 256, .xs (.int .i32) 256], [.xs .bool 256, .int .i64], g⟩ :=
  fun_of (E := p_dring_MakeHint_E) (H := p_dring_MakeHint_H) (L := fun N => p_dring_MakeHint_l6_L N) (c := p_dring_MakeHint_c) (ks := p_dring_MakeHint_ks) (rs := p_dring_MakeHint_rs) (F := p_dring_MakeHint) (p_dring_MakeHint_Eok he_dring_Decompose he_dring_Add) mix Go.Proofs.Try.func20 (by kernel_rfl) (fun N => p_dring_MakeHint_l6_ok N) p_dring_MakeHint_eq hg

/-! livery/liveryref15.MakeHint -/
noncomputable def p_ref15_MakeHint_E : AE := AE.of [(4, ty4), (21, ty21), (23, ty23), (31, ty31)] [(16, ⟨[.xs (.int .i32) 256], [.xs (.int .i32) 256, .xs (.int .i32) 256], g_ref15_Decompose⟩), (44, ⟨[.xs (.int .i32) 256, .xs (.int .i32) 256], [.xs (.int .i32) 256], g_ref15_Add⟩)]
noncomputable def p_ref15_MakeHint_H : Hints := [(6, [4, 6, 8, 10, 11, 25]), (2000000, [4, 10, 11]), (2000001, [4, 6, 8, 10, 11, 25]), (3000000, [4, 5])]
noncomputable def p_ref15_MakeHint_c : Code := (Go.Proofs.Try.f21).body.getD .skip
noncomputable def p_ref15_MakeHint_l6_S : Shape where
  h := { tmps := [.any, .any, .any, .any, .sc (.ptr 0 0 false), .any, .sc (.ptr 1 0 false), .any, .sc (.ptr 2 0 false), .any, .sc (.ptr 3 0 false), .sc (.int .i64), .any, .any, .any, .any, .any, .any, .any, .any, .any, .any, .any, .any, .any, .sc (.int .i64), .any, .any, .any, .any, .any, .any, .any, .any, .any, .any, .any, .any, .any, .any, .any, .any], mem := [.live [.xs .bool (some 256)] true, .live [.xs (.int .i32) (some 256)] true, .live [.xs (.int .i32) (some 256)] true, .live [.xs .bool (some 256)] true] }
  ks := [.int, .int, .xs, .xs, .xs, .xs]
  st := fun x => { tmps := [.one .any, .one .any, .one .any, .one .any, .one (.sc (.ptr 0 0 none)), .one .any, .one (.sc (.ptr 1 0 none)), .one .any, .one (.sc (.ptr 2 0 none)), .one .any, .one (.sc (.ptr 3 0 none)), .one (.sc (.int .i64 x.1)), .one .any, .one .any, .one .any, .one .any, .one .any, .one .any, .one .any, .one .any, .one .any, .one .any, .one .any, .one .any, .one .any, .one (.sc (.int .i64 x.2.1)), .one .any, .one .any, .one .any, .one .any, .one .any, .one .any, .one .any, .one .any, .one .any, .one .any, .one .any, .one .any, .one .any, .one .any, .one .any, .one .any], mem := [.live { segs := [.xs .bool 256 x.2.2.1], own := true }, .live { segs := [.xs (.int .i32) 256 x.2.2.2.1], own := true }, .live { segs := [.xs (.int .i32) 256 x.2.2.2.2.1], own := true }, .live { segs := [.xs .bool 256 x.2.2.2.2.2.1], own := true }] }
noncomputable def p_ref15_MakeHint_l6_F (N : Nat) (β : Type) (x : (Int × Int × List Int × List Int × List Int × List Int × Unit)) (kn : (Int × Int × List Int × List Int × List Int × List Int × Unit) → Option β) (ke : ((Int × List Int × List Int × Unit)) → Option β) : Option β :=
  if (x.2.1 < (256:Int)) then
    if 0 ≤ x.2.1 then (
    if x.2.1 < 256 then (
    if (x.2.1.toNat) < 256 then (
    if 0 ≤ x.2.1 then (
    if x.2.1 < 256 then (
    if (x.2.1.toNat) < 256 then (
    if ((List.getD x.2.2.2.1 (x.2.1.toNat) 0) ≠ (List.getD x.2.2.2.2.1 (x.2.1.toNat) 0)) then
      if 0 ≤ x.2.1 then (
      if x.2.1 < 256 then (
      if (x.2.1.toNat) < 256 then (
      kn ((IntKind.i64.wrap (x.1 + (1:Int))), (IntKind.i64.wrap (x.2.1 + (1:Int))), x.2.2.1, x.2.2.2.1, x.2.2.2.2.1, (List.set x.2.2.2.2.2.1 (x.2.1.toNat) (1:Int)), ())) else none) else none) else none
    else
      kn (x.1, (IntKind.i64.wrap (x.2.1 + (1:Int))), x.2.2.1, x.2.2.2.1, x.2.2.2.2.1, x.2.2.2.2.2.1, ())) else none) else none) else none) else none) else none) else none
  else
    ke (x.1, x.2.2.1, x.2.2.2.2.2.1, ())
noncomputable def p_ref15_MakeHint_l6_go : Go' ((Int × List Int × List Int × Unit)) := fun y K => K (.exit 0) { tmps := [.one .any, .one .any, .one .any, .one .any, .one (.sc (.ptr 0 0 none)), .one .any, .one .any, .one .any, .one .any, .one .any, .one (.sc (.ptr 1 0 none)), .one (.sc (.int .i64 y.1)), .one .any, .one .any, .one .any, .one .any, .one .any, .one .any, .one .any, .one .any, .one .any, .one .any, .one .any, .one .any, .one .any, .one .any, .one .any, .one .any, .one .any, .one .any, .one .any, .one .any, .one .any, .one .any, .one .any, .one .any, .one .any, .one .any, .one .any, .one .any, .one .any, .one .any], mem := [.live { segs := [.xs .bool 256 y.2.1], own := true }, .live { segs := [.xs .bool 256 y.2.2.1], own := true }] }
noncomputable def p_ref15_MakeHint_l6_L (N : Nat) : LT := upd (LT.nil) 6 (loopE p_ref15_MakeHint_l6_S N (p_ref15_MakeHint_l6_F N) p_ref15_MakeHint_l6_go)
theorem p_ref15_MakeHint_l6_ok (N : Nat) : OkAll p_ref15_MakeHint_E p_ref15_MakeHint_H N (p_ref15_MakeHint_l6_L N) (subs p_ref15_MakeHint_c) :=
  addLoop (c := theLoop 6 p_ref15_MakeHint_c) (OkAll.nil) (by kernel_rfl) (fun x => by kernel_rfl) (fun β x kn ke => by kernel_rfl)
abbrev p_ref15_MakeHint_ks : List Kd := [.xs (.int .i32) 256, .xs (.int .i32) 256]
abbrev p_ref15_MakeHint_rs : List Kd := [.xs .bool 256, .int .i64]
noncomputable def p_ref15_MakeHint (N : Nat) (x : List Int × List Int × Unit) : Option (List Int × Int) :=
  (g_ref15_Decompose (x.2.1, ())).bind fun r1 => (
  (g_ref15_Add (x.2.1, x.1, ())).bind fun r2 => (
  (g_ref15_Decompose (r2, ())).bind fun r3 => (
  iter (p_ref15_MakeHint_l6_F N) N ((0:Int), (0:Int), (List.replicate 256 0), r1.1, r3.1, (List.replicate 256 0), ()) fun y4 => (
  some (y4.2.2.1, y4.1)))))
theorem p_ref15_MakeHint_eq (N : Nat) (x : Ds [.xs (.int .i32) 256, .xs (.int .i32) 256]) : funL p_ref15_MakeHint_E p_ref15_MakeHint_H (p_ref15_MakeHint_l6_L N) N Go.Proofs.Try.f21 p_ref15_MakeHint_c [.xs (.int .i32) 256, .xs (.int .i32) 256] [.xs .bool 256, .int .i64] x = p_ref15_MakeHint N x := by kernel_rfl
theorem p_ref15_MakeHint_Eok (he_ref15_Decompose : SigOk Go.Proofs.Try.prog 16 ⟨[.xs (.int .i32) 256], [.xs (.int .i32) 256, .xs (.int .i32) 256], g_ref15_Decompose⟩) (he_ref15_Add : SigOk Go.Proofs.Try.prog 44 ⟨[.xs (.int .i32) 256, .xs (.int .i32) 256], [.xs (.int .i32) 256], g_ref15_Add⟩) : p_ref15_MakeHint_E.Ok Go.Proofs.Try.prog := AE.of_ok (all_cons ty4_ok (all_cons ty21_ok (all_cons ty23_ok (all_cons ty31_ok all_nil)))) (all_cons ⟨he_ref15_Decompose, enters_ref15_Decompose⟩ (all_cons ⟨he_ref15_Add, enters_ref15_Add⟩ all_nil))
theorem p_ref15_MakeHint_ok (he_ref15_Decompose : SigOk Go.Proofs.Try.prog 16 ⟨[.xs (.int .i32) 256], [.xs (.int .i32) 256, .xs (.int .i32) 256], g_ref15_Decompose⟩) (he_ref15_Add : SigOk Go.Proofs.Try.prog 44 ⟨[.xs (.int .i32) 256, .xs (.int .i32) 256], [.xs (.int .i32) 256], g_ref15_Add⟩) {g : Ds [.xs (.int .i32) 256, .xs (.int .i32) 256] → Option (Rs [.xs .bool 256, .int .i64])} (hg : ∀ x r, g x = some r → ∃ N, p_ref15_MakeHint N x = some r) : SigOk Go.Proofs.Try.prog 21 ⟨[.xs (.int .i32) 256, .xs (.int .i32) 256], [.xs .bool 256, .int .i64], g⟩ :=
  fun_of (E := p_ref15_MakeHint_E) (H := p_ref15_MakeHint_H) (L := fun N => p_ref15_MakeHint_l6_L N) (c := p_ref15_MakeHint_c) (ks := p_ref15_MakeHint_ks) (rs := p_ref15_MakeHint_rs) (F := p_ref15_MakeHint) (p_ref15_MakeHint_Eok he_ref15_Decompose he_ref15_Add) mix Go.Proofs.Try.func21 (by kernel_rfl) (fun N => p_ref15_MakeHint_l6_ok N) p_ref15_MakeHint_eq hg

/-! livery/dring.UseHint -/
noncomputable def p_dring_UseHint_E : AE := AE.of [(4, ty4), (21, ty21), (23, ty23), (31, ty31)] [(15, ⟨[.xs (.int .i32) 256], [.xs (.int .i32) 256, .xs (.int .i32) 256], g_dring_Decompose⟩)]
noncomputable def p_dring_UseHint_H : Hints := [(3, [4, 5, 6, 14, 15]), (2000000, [4, 5]), (2000001, [4, 5, 6, 14, 15]), (2000002, [4, 5, 6, 14, 15]), (3000000, [4])]
noncomputable def p_dring_UseHint_c : Code := (Go.Proofs.Try.f22).body.getD .skip
noncomputable def p_dring_UseHint_l3_S : Shape where
  h := { tmps := [.any, .any, .any, .any, .sc (.ptr 0 0 false), .sc (.ptr 1 0 false), .sc (.ptr 2 0 false), .any, .any, .any, .any, .any, .any, .any, .agg [.xs .bool (some 256)], .sc (.int .i64), .any, .any, .any, .any, .any, .any, .any, .any, .any, .any, .any, .any, .any, .any, .any, .any, .any, .any, .any, .any, .any, .any, .any, .any, .any, .any, .any, .any, .any, .any], mem := [.live [.xs (.int .i32) (some 256)] true, .live [.xs (.int .i32) (some 256)] true, .live [.xs (.int .i32) (some 256)] true] }
  ks := [.xs, .int, .xs, .xs, .xs]
  st := fun x => { tmps := [.one .any, .one .any, .one .any, .one .any, .one (.sc (.ptr 0 0 none)), .one (.sc (.ptr 1 0 none)), .one (.sc (.ptr 2 0 none)), .one .any, .one .any, .one .any, .one .any, .one .any, .one .any, .one .any, .one (.agg [.xs .bool 256 x.1]), .one (.sc (.int .i64 x.2.1)), .one .any, .one .any, .one .any, .one .any, .one .any, .one .any, .one .any, .one .any, .one .any, .one .any, .one .any, .one .any, .one .any, .one .any, .one .any, .one .any, .one .any, .one .any, .one .any, .one .any, .one .any, .one .any, .one .any, .one .any, .one .any, .one .any, .one .any, .one .any, .one .any, .one .any], mem := [.live { segs := [.xs (.int .i32) 256 x.2.2.1], own := true }, .live { segs := [.xs (.int .i32) 256 x.2.2.2.1], own := true }, .live { segs := [.xs (.int .i32) 256 x.2.2.2.2.1], own := true }] }
noncomputable def p_dring_UseHint_l3_F (N : Nat) (β : Type) (x : (List Int × Int × List Int × List Int × List Int × Unit)) (kn : (List Int × Int × List Int × List Int × List Int × Unit) → Option β) (ke : ((List Int × List Int × Unit)) → Option β) : Option β :=
  if (x.2.1 < (256:Int)) then
    if 0 ≤ x.2.1 then (
    if x.2.1 < 256 then (
    if (x.2.1.toNat) < 256 then (
    if ((List.getD x.1 (x.2.1.toNat) 0) ≠ 0) then
      if 0 ≤ x.2.1 then (
      if x.2.1 < 256 then (
      if (x.2.1.toNat) < 256 then (
      if ((List.getD x.2.2.2.2.1 (x.2.1.toNat) 0) > (0:Int)) then
        if 0 ≤ x.2.1 then (
        if x.2.1 < 256 then (
        if (x.2.1.toNat) < 256 then (
        if 0 ≤ x.2.1 then (
        if x.2.1 < 256 then (
        if (x.2.1.toNat) < 256 then (
        kn (x.1, (IntKind.i64.wrap (x.2.1 + (1:Int))), x.2.2.1, (List.set x.2.2.2.1 (x.2.1.toNat) (Int.tmod (IntKind.i32.wrap ((List.getD x.2.2.2.1 (x.2.1.toNat) 0) + (1:Int))) (16:Int))), x.2.2.2.2.1, ())) else none) else none) else none) else none) else none) else none
      else
        if ((List.getD x.1 (x.2.1.toNat) 0) ≠ 0) then
          if 0 ≤ x.2.1 then (
          if x.2.1 < 256 then (
          if (x.2.1.toNat) < 256 then (
          if 0 ≤ x.2.1 then (
          if x.2.1 < 256 then (
          if (x.2.1.toNat) < 256 then (
          kn (x.1, (IntKind.i64.wrap (x.2.1 + (1:Int))), x.2.2.1, (List.set x.2.2.2.1 (x.2.1.toNat) (Int.tmod (IntKind.i32.wrap ((IntKind.i32.wrap ((List.getD x.2.2.2.1 (x.2.1.toNat) 0) + (16:Int))) - (1:Int))) (16:Int))), x.2.2.2.2.1, ())) else none) else none) else none) else none) else none) else none
        else
          kn (x.1, (IntKind.i64.wrap (x.2.1 + (1:Int))), x.2.2.1, x.2.2.2.1, x.2.2.2.2.1, ())) else none) else none) else none
    else
      if ((List.getD x.1 (x.2.1.toNat) 0) ≠ 0) then
        if 0 ≤ x.2.1 then (
        if x.2.1 < 256 then (
        if (x.2.1.toNat) < 256 then (
        if 0 ≤ x.2.1 then (
        if x.2.1 < 256 then (
        if (x.2.1.toNat) < 256 then (
        kn (x.1, (IntKind.i64.wrap (x.2.1 + (1:Int))), x.2.2.1, (List.set x.2.2.2.1 (x.2.1.toNat) (Int.tmod (IntKind.i32.wrap ((IntKind.i32.wrap ((List.getD x.2.2.2.1 (x.2.1.toNat) 0) + (16:Int))) - (1:Int))) (16:Int))), x.2.2.2.2.1, ())) else none) else none) else none) else none) else none) else none
      else
        kn (x.1, (IntKind.i64.wrap (x.2.1 + (1:Int))), x.2.2.1, x.2.2.2.1, x.2.2.2.2.1, ())) else none) else none) else none
  else
    ke (x.2.2.1, x.2.2.2.1, ())
noncomputable def p_dring_UseHint_l3_go : Go' ((List Int × List Int × Unit)) := fun y K => K (.exit 0) { tmps := [.one .any, .one .any, .one .any, .one .any, .one (.sc (.ptr 0 0 none)), .one (.sc (.ptr 1 0 none)), .one .any, .one .any, .one .any, .one .any, .one .any, .one .any, .one .any, .one .any, .one .any, .one .any, .one .any, .one .any, .one .any, .one .any, .one .any, .one .any, .one .any, .one .any, .one .any, .one .any, .one .any, .one .any, .one .any, .one .any, .one .any, .one .any, .one .any, .one .any, .one .any, .one .any, .one .any, .one .any, .one .any, .one .any, .one .any, .one .any, .one .any, .one .any, .one .any, .one .any], mem := [.live { segs := [.xs (.int .i32) 256 y.1], own := true }, .live { segs := [.xs (.int .i32) 256 y.2.1], own := true }] }
noncomputable def p_dring_UseHint_l3_L (N : Nat) : LT := upd (LT.nil) 3 (loopE p_dring_UseHint_l3_S N (p_dring_UseHint_l3_F N) p_dring_UseHint_l3_go)
theorem p_dring_UseHint_l3_ok (N : Nat) : OkAll p_dring_UseHint_E p_dring_UseHint_H N (p_dring_UseHint_l3_L N) (subs p_dring_UseHint_c) :=
  addLoop (c := theLoop 3 p_dring_UseHint_c) (OkAll.nil) (by kernel_rfl) (fun x => by kernel_rfl) (fun β x kn ke => by kernel_rfl)
abbrev p_dring_UseHint_ks : List Kd := [.xs .bool 256, .xs (.int .i32) 256]
abbrev p_dring_UseHint_rs : List Kd := [.xs (.int .i32) 256]
noncomputable def p_dring_UseHint (N : Nat) (x : List Int × List Int × Unit) : Option (List Int) :=
  (g_dring_Decompose (x.2.1, ())).bind fun r1 => (
  iter (p_dring_UseHint_l3_F N) N (x.1, (0:Int), (List.replicate 256 0), r1.1, r1.2, ()) fun y2 => (
  some y2.2.1))
theorem p_dring_UseHint_eq (N : Nat) (x : Ds [.xs .bool 256, .xs (.int .i32) 256]) : funL p_dring_UseHint_E p_dring_UseHint_H (p_dring_UseHint_l3_L N) N Go.Proofs.Try.f22 p_dring_UseHint_c [.xs .bool 256, .xs (.int .i32) 256] [.xs (.int .i32) 256] x = p_dring_UseHint N x := by kernel_rfl
theorem p_dring_UseHint_Eok (he_dring_Decompose : SigOk Go.Proofs.Try.prog 15 ⟨[.xs (.int .i32) 256], [.xs (.int .i32) 256, .xs (.int .i32) 256], g_dring_Decompose⟩) : p_dring_UseHint_E.Ok Go.Proofs.Try.prog := AE.of_ok (all_cons ty4_ok (all_cons ty21_ok (all_cons ty23_ok (all_cons ty31_ok all_nil)))) (all_cons ⟨he_dring_Decompose, enters_dring_Decompose⟩ all_nil)
theorem p_dring_UseHint_ok (he_dring_Decompose : SigOk Go.Proofs.Try.prog 15 ⟨[.xs (.int .i32) 256], [.xs (.int .i32) 256, .xs (.int .i32) 256], g_dring_Decompose⟩) {g : Ds [.xs .bool 256, .xs (.int .i32) 256] → Option (Rs [.xs (.int .i32) 256])} (hg : ∀ x r, g x = some r → ∃ N, p_dring_UseHint N x = some r) : SigOk Go.Proofs.Try.prog 22 ⟨[.xs .bool 256, .xs (.int .i32) 256], [.xs (.int .i32) 256], g⟩ :=
  fun_of (E := p_dring_UseHint_E) (H := p_dring_UseHint_H) (L := fun N => p_dring_UseHint_l3_L N) (c := p_dring_UseHint_c) (ks := p_dring_UseHint_ks) (rs := p_dring_UseHint_rs) (F := p_dring_UseHint) (p_dring_UseHint_Eok he_dring_Decompose) mix Go.Proofs.Try.func22 (by kernel_rfl) (fun N => p_dring_UseHint_l3_ok N) p_dring_UseHint_eq hg

/-! livery/liveryref15.UseHint -/
noncomputable def p_ref15_UseHint_E : AE := AE.of [(4, ty4), (21, ty21), (23, ty23), (31, ty31)] [(16, ⟨[.xs (.int .i32) 256], [.xs (.int .i32) 256, .xs (.int .i32) 256], g_ref15_Decompose⟩)]
noncomputable def p_ref15_UseHint_H : Hints := [(3, [2, 4, 5, 6, 13]), (2000000, [4, 5]), (2000001, [2, 4, 5, 6, 13]), (3000000, [4])]
noncomputable def p_ref15_UseHint_c : Code := (Go.Proofs.Try.f23).body.getD .skip
noncomputable def p_ref15_UseHint_l3_S : Shape where
  h := { tmps := [.any, .any, .sc (.ptr 0 0 false), .any, .sc (.ptr 1 0 false), .sc (.ptr 2 0 false), .sc (.ptr 3 0 false), .any, .any, .any, .any, .any, .any, .sc (.int .i64), .any, .any, .any, .any, .any, .any, .any, .any, .any, .any, .any, .any, .any, .any, .any, .any, .any, .any, .any, .any, .any, .any, .any, .any, .any, .any, .any, .any, .any, .any], mem := [.live [.xs .bool (some 256)] true, .live [.xs (.int .i32) (some 256)] true, .live [.xs (.int .i32) (some 256)] true, .live [.xs (.int .i32) (some 256)] true] }
  ks := [.int, .xs, .xs, .xs, .xs]
  st := fun x => { tmps := [.one .any, .one .any, .one (.sc (.ptr 0 0 none)), .one .any, .one (.sc (.ptr 1 0 none)), .one (.sc (.ptr 2 0 none)), .one (.sc (.ptr 3 0 none)), .one .any, .one .any, .one .any, .one .any, .one .any, .one .any, .one (.sc (.int .i64 x.1)), .one .any, .one .any, .one .any, .one .any, .one .any, .one .any, .one .any, .one .any, .one .any, .one .any, .one .any, .one .any, .one .any, .one .any, .one .any, .one .any, .one .any, .one .any, .one .any, .one .any, .one .any, .one .any, .one .any, .one .any, .one .any, .one .any, .one .any, .one .any, .one .any, .one .any], mem := [.live { segs := [.xs .bool 256 x.2.1], own := true }, .live { segs := [.xs (.int .i32) 256 x.2.2.1], own := true }, .live { segs := [.xs (.int .i32) 256 x.2.2.2.1], own := true }, .live { segs := [.xs (.int .i32) 256 x.2.2.2.2.1], own := true }] }
noncomputable def p_ref15_UseHint_l3_F (N : Nat) (β : Type) (x : (Int × List Int × List Int × List Int × List Int × Unit)) (kn : (Int × List Int × List Int × List Int × List Int × Unit) → Option β) (ke : ((List Int × List Int × Unit)) → Option β) : Option β :=
  if (x.1 < (256:Int)) then
    if 0 ≤ x.1 then (
    if x.1 < 256 then (
    if (x.1.toNat) < 256 then (
    if ((List.getD x.2.1 (x.1.toNat) 0) ≠ 0) then
      if 0 ≤ x.1 then (
      if x.1 < 256 then (
      if (x.1.toNat) < 256 then (
      if ((List.getD x.2.2.2.2.1 (x.1.toNat) 0) > (0:Int)) then
        if 0 ≤ x.1 then (
        if x.1 < 256 then (
        if (x.1.toNat) < 256 then (
        if 0 ≤ x.1 then (
        if x.1 < 256 then (
        if (x.1.toNat) < 256 then (
        kn ((IntKind.i64.wrap (x.1 + (1:Int))), x.2.1, x.2.2.1, (List.set x.2.2.2.1 (x.1.toNat) (Int.tmod (IntKind.i32.wrap ((List.getD x.2.2.2.1 (x.1.toNat) 0) + (1:Int))) (16:Int))), x.2.2.2.2.1, ())) else none) else none) else none) else none) else none) else none
      else
        if 0 ≤ x.1 then (
        if x.1 < 256 then (
        if (x.1.toNat) < 256 then (
        if ((List.getD x.2.1 (x.1.toNat) 0) ≠ 0) then
          if 0 ≤ x.1 then (
          if x.1 < 256 then (
          if (x.1.toNat) < 256 then (
          if 0 ≤ x.1 then (
          if x.1 < 256 then (
          if (x.1.toNat) < 256 then (
          kn ((IntKind.i64.wrap (x.1 + (1:Int))), x.2.1, x.2.2.1, (List.set x.2.2.2.1 (x.1.toNat) (Int.tmod (IntKind.i32.wrap ((List.getD x.2.2.2.1 (x.1.toNat) 0) + (15:Int))) (16:Int))), x.2.2.2.2.1, ())) else none) else none) else none) else none) else none) else none
        else
          kn ((IntKind.i64.wrap (x.1 + (1:Int))), x.2.1, x.2.2.1, x.2.2.2.1, x.2.2.2.2.1, ())) else none) else none) else none) else none) else none) else none
    else
      if 0 ≤ x.1 then (
      if x.1 < 256 then (
      if (x.1.toNat) < 256 then (
      if ((List.getD x.2.1 (x.1.toNat) 0) ≠ 0) then
        if 0 ≤ x.1 then (
        if x.1 < 256 then (
        if (x.1.toNat) < 256 then (
        if 0 ≤ x.1 then (
        if x.1 < 256 then (
        if (x.1.toNat) < 256 then (
        kn ((IntKind.i64.wrap (x.1 + (1:Int))), x.2.1, x.2.2.1, (List.set x.2.2.2.1 (x.1.toNat) (Int.tmod (IntKind.i32.wrap ((List.getD x.2.2.2.1 (x.1.toNat) 0) + (15:Int))) (16:Int))), x.2.2.2.2.1, ())) else none) else none) else none) else none) else none) else none
      else
        kn ((IntKind.i64.wrap (x.1 + (1:Int))), x.2.1, x.2.2.1, x.2.2.2.1, x.2.2.2.2.1, ())) else none) else none) else none) else none) else none) else none
  else
    ke (x.2.2.1, x.2.2.2.1, ())
noncomputable def p_ref15_UseHint_l3_go : Go' ((List Int × List Int × Unit)) := fun y K => K (.exit 0) { tmps := [.one .any, .one .any, .one .any, .one .any, .one (.sc (.ptr 0 0 none)), .one (.sc (.ptr 1 0 none)), .one .any, .one .any, .one .any, .one .any, .one .any, .one .any, .one .any, .one .any, .one .any, .one .any, .one .any, .one .any, .one .any, .one .any, .one .any, .one .any, .one .any, .one .any, .one .any, .one .any, .one .any, .one .any, .one .any, .one .any, .one .any, .one .any, .one .any, .one .any, .one .any, .one .any, .one .any, .one .any, .one .any, .one .any, .one .any, .one .any, .one .any, .one .any], mem := [.live { segs := [.xs (.int .i32) 256 y.1], own := true }, .live { segs := [.xs (.int .i32) 256 y.2.1], own := true }] }
noncomputable def p_ref15_UseHint_l3_L (N : Nat) : LT := upd (LT.nil) 3 (loopE p_ref15_UseHint_l3_S N (p_ref15_UseHint_l3_F N) p_ref15_UseHint_l3_go)
theorem p_ref15_UseHint_l3_ok (N : Nat) : OkAll p_ref15_UseHint_E p_ref15_UseHint_H N (p_ref15_UseHint_l3_L N) (subs p_ref15_UseHint_c) :=
  addLoop (c := theLoop 3 p_ref15_UseHint_c) (OkAll.nil) (by kernel_rfl) (fun x => by kernel_rfl) (fun β x kn ke => by kernel_rfl)
abbrev p_ref15_UseHint_ks : List Kd := [.xs .bool 256, .xs (.int .i32) 256]
abbrev p_ref15_UseHint_rs : List Kd := [.xs (.int .i32) 256]
noncomputable def p_ref15_UseHint (N : Nat) (x : List Int × List Int × Unit) : Option (List Int) :=
  (g_ref15_Decompose (x.2.1, ())).bind fun r1 => (
  iter (p_ref15_UseHint_l3_F N) N ((0:Int), x.1, (List.replicate 256 0), r1.1, r1.2, ()) fun y2 => (
  some y2.2.1))
theorem p_ref15_UseHint_eq (N : Nat) (x : Ds [.xs .bool 256, .xs (.int .i32) 256]) : funL p_ref15_UseHint_E p_ref15_UseHint_H (p_ref15_UseHint_l3_L N) N Go.Proofs.Try.f23 p_ref15_UseHint_c [.xs .bool 256, .xs (.int .i32) 256] [.xs (.int .i32) 256] x = p_ref15_UseHint N x := by kernel_rfl
theorem p_ref15_UseHint_Eok (he_ref15_Decompose : SigOk Go.Proofs.Try.prog 16 ⟨[.xs (.int .i32) 256], [.xs (.int .i32) 256, .xs (.int .i32) 256], g_ref15_Decompose⟩) : p_ref15_UseHint_E.Ok Go.Proofs.Try.prog := AE.of_ok (all_cons ty4_ok (all_cons ty21_ok (all_cons ty23_ok (all_cons ty31_ok all_nil)))) (all_cons ⟨he_ref15_Decompose, enters_ref15_Decompose⟩ all_nil)
theorem p_ref15_UseHint_ok (he_ref15_Decompose : SigOk Go.Proofs.Try.prog 16 ⟨[.xs (.int .i32) 256], [.xs (.int .i32) 256, .xs (.int .i32) 256], g_ref15_Decompose⟩) {g : Ds [.xs .bool 256, .xs (.int .i32) 256] → Option (Rs [.xs (.int .i32) 256])} (hg : ∀ x r, g x = some r → ∃ N, p_ref15_UseHint N x = some r) : SigOk Go.Proofs.Try.prog 23 ⟨[.xs .bool 256, .xs (.int .i32) 256], [.xs (.int .i32) 256], g⟩ :=
  fun_of (E := p_ref15_UseHint_E) (H := p_ref15_UseHint_H) (L := fun N => p_ref15_UseHint_l3_L N) (c := p_ref15_UseHint_c) (ks := p_ref15_UseHint_ks) (rs := p_ref15_UseHint_rs) (F := p_ref15_UseHint) (p_ref15_UseHint_Eok he_ref15_Decompose) mix Go.Proofs.Try.func23 (by kernel_rfl) (fun N => p_ref15_UseHint_l3_ok N) p_ref15_UseHint_eq hg

/-! livery/liverylaw15.DringParts -/
noncomputable def p_law15_DringParts_E : AE := AE.of [(2, ty2), (21, ty21), (23, ty23)] [(18, ⟨[.xs (.int .i32) 256], [.xs (.int .i32) 256], g_dring_Reduce⟩), (13, ⟨[.xs (.int .i32) 256], [.xs (.int .i32) 256, .xs (.int .i32) 256], g_dring_Power2Round⟩), (15, ⟨[.xs (.int .i32) 256], [.xs (.int .i32) 256, .xs (.int .i32) 256], g_dring_Decompose⟩), (17, ⟨[], [.bool], g_law15_live⟩), (19, ⟨[.xs (.int .i32) 256], [.int .i32], g_dring_Norm⟩)]
noncomputable def p_law15_DringParts_H : Hints := [(7, [3, 4, 5, 6, 7, 35]), (2000000, []), (2000001, [3, 4, 5, 6, 7, 35]), (3000000, [2])]
noncomputable def p_law15_DringParts_c : Code := (Go.Proofs.Try.f4).body.getD .skip
noncomputable def p_law15_DringParts_l7_S : Shape where
  h := { tmps := [.any, .any, .any, .sc (.ptr 0 0 false), .sc (.ptr 1 0 false), .sc (.ptr 2 0 false), .sc (.ptr 3 0 false), .sc (.ptr 4 0 false), .any, .any, .any, .any, .any, .any, .any, .any, .any, .any, .any, .any, .any, .any, .any, .any, .any, .any, .any, .any, .any, .any, .any, .any, .any, .any, .any, .sc (.int .i64), .any, .any, .any, .any, .any, .any, .any, .any, .any, .any, .any, .any, .any, .any, .any, .any, .any, .any, .any, .any, .any, .any, .any, .any, .any, .any, .any, .any, .any, .any, .any, .any, .any, .any, .any, .any, .any, .any, .any, .any, .any, .any, .any, .any, .any, .any, .any, .any, .any, .any, .any, .any, .any, .any, .any, .any, .any, .any, .any, .any, .any, .any, .any, .any, .any, .any, .any, .any], mem := [.live [.xs (.int .i32) (some 256)] true, .live [.xs (.int .i32) (some 256)] true, .live [.xs (.int .i32) (some 256)] true, .live [.xs (.int .i32) (some 256)] true, .live [.xs (.int .i32) (some 256)] true] }
  ks := [.int, .xs, .xs, .xs, .xs, .xs]
  st := fun x => { tmps := [.one .any, .one .any, .one .any, .one (.sc (.ptr 0 0 none)), .one (.sc (.ptr 1 0 none)), .one (.sc (.ptr 2 0 none)), .one (.sc (.ptr 3 0 none)), .one (.sc (.ptr 4 0 none)), .one .any, .one .any, .one .any, .one .any, .one .any, .one .any, .one .any, .one .any, .one .any, .one .any, .one .any, .one .any, .one .any, .one .any, .one .any, .one .any, .one .any, .one .any, .one .any, .one .any, .one .any, .one .any, .one .any, .one .any, .one .any, .one .any, .one .any, .one (.sc (.int .i64 x.1)), .one .any, .one .any, .one .any, .one .any, .one .any, .one .any, .one .any, .one .any, .one .any, .one .any, .one .any, .one .any, .one .any, .one .any, .one .any, .one .any, .one .any, .one .any, .one .any, .one .any, .one .any, .one .any, .one .any, .one .any, .one .any, .one .any, .one .any, .one .any, .one .any, .one .any, .one .any, .one .any, .one .any, .one .any, .one .any, .one .any, .one .any, .one .any, .one .any, .one .any, .one .any, .one .any, .one .any, .one .any, .one .any, .one .any, .one .any, .one .any, .one .any, .one .any, .one .any, .one .any, .one .any, .one .any, .one .any, .one .any, .one .any, .one .any, .one .any, .one .any, .one .any, .one .any, .one .any, .one .any, .one .any, .one .any, .one .any, .one .any], mem := [.live { segs := [.xs (.int .i32) 256 x.2.1], own := true }, .live { segs := [.xs (.int .i32) 256 x.2.2.1], own := true }, .live { segs := [.xs (.int .i32) 256 x.2.2.2.1], own := true }, .live { segs := [.xs (.int .i32) 256 x.2.2.2.2.1], own := true }, .live { segs := [.xs (.int .i32) 256 x.2.2.2.2.2.1], own := true }] }
noncomputable def p_law15_DringParts_l7_F (N : Nat) (β : Type) (x : (Int × List Int × List Int × List Int × List Int × List Int × Unit)) (kn : (Int × List Int × List Int × List Int × List Int × List Int × Unit) → Option β) (ke : ((Bool × Unit) ⊕ (Unit)) → Option β) : Option β :=
  if (x.1 < (256:Int)) then
    if 0 ≤ x.1 then (
    if x.1 < 256 then (
    if (x.1.toNat) < 256 then (
    if 0 ≤ x.1 then (
    if x.1 < 256 then (
    if (x.1.toNat) < 256 then (
    if 0 ≤ x.1 then (
    if x.1 < 256 then (
    if (x.1.toNat) < 256 then (
    if 0 ≤ x.1 then (
    if x.1 < 256 then (
    if (x.1.toNat) < 256 then (
    if 0 ≤ x.1 then (
    if x.1 < 256 then (
    if (x.1.toNat) < 256 then (
    if 0 ≤ x.1 then (
    if x.1 < 256 then (
    if (x.1.toNat) < 256 then (
    if ((IntKind.i64.wrap ((IntKind.i64.wrap ((IntKind.i64.wrap ((IntKind.i64.wrap (List.getD x.2.2.1 (x.1.toNat) 0)) * (8192:Int))) + (IntKind.i64.wrap (List.getD x.2.2.2.1 (x.1.toNat) 0)))) - (IntKind.i64.wrap (List.getD x.2.1 (x.1.toNat) 0)))) ≠ (0:Int)) then
      ke (.inl (false, ()))
    else
      if ((IntKind.i64.wrap ((IntKind.i64.wrap ((IntKind.i64.wrap ((IntKind.i64.wrap ((IntKind.i64.wrap (List.getD x.2.2.2.2.1 (x.1.toNat) 0)) * (2:Int))) * (261888:Int))) + (IntKind.i64.wrap (List.getD x.2.2.2.2.2.1 (x.1.toNat) 0)))) - (IntKind.i64.wrap (List.getD x.2.1 (x.1.toNat) 0)))) ≠ (0:Int)) then
        if ((IntKind.i64.wrap ((IntKind.i64.wrap ((IntKind.i64.wrap ((IntKind.i64.wrap ((IntKind.i64.wrap (List.getD x.2.2.2.2.1 (x.1.toNat) 0)) * (2:Int))) * (261888:Int))) + (IntKind.i64.wrap (List.getD x.2.2.2.2.2.1 (x.1.toNat) 0)))) - (IntKind.i64.wrap (List.getD x.2.1 (x.1.toNat) 0)))) ≠ (-8380417:Int)) then
          ke (.inl (false, ()))
        else
          if 0 ≤ x.1 then (
          if x.1 < 256 then (
          if (x.1.toNat) < 256 then (
          if ((List.getD x.2.2.2.2.1 (x.1.toNat) 0) < (0:Int)) then
            ke (.inl (false, ()))
          else
            if 0 ≤ x.1 then (
            if x.1 < 256 then (
            if (x.1.toNat) < 256 then (
            if ((List.getD x.2.2.2.2.1 (x.1.toNat) 0) ≥ (16:Int)) then
              ke (.inl (false, ()))
            else
              if 0 ≤ x.1 then (
              if x.1 < 256 then (
              if (x.1.toNat) < 256 then (
              if ((List.getD x.2.2.1 (x.1.toNat) 0) < (0:Int)) then
                ke (.inl (false, ()))
              else
                if 0 ≤ x.1 then (
                if x.1 < 256 then (
                if (x.1.toNat) < 256 then (
                if ((List.getD x.2.2.1 (x.1.toNat) 0) > (1023:Int)) then
                  ke (.inl (false, ()))
                else
                  kn ((IntKind.i64.wrap (x.1 + (1:Int))), x.2.1, x.2.2.1, x.2.2.2.1, x.2.2.2.2.1, x.2.2.2.2.2.1, ())) else none) else none) else none) else none) else none) else none) else none) else none) else none) else none) else none) else none
      else
        if 0 ≤ x.1 then (
        if x.1 < 256 then (
        if (x.1.toNat) < 256 then (
        if ((List.getD x.2.2.2.2.1 (x.1.toNat) 0) < (0:Int)) then
          ke (.inl (false, ()))
        else
          if 0 ≤ x.1 then (
          if x.1 < 256 then (
          if (x.1.toNat) < 256 then (
          if ((List.getD x.2.2.2.2.1 (x.1.toNat) 0) ≥ (16:Int)) then
            ke (.inl (false, ()))
          else
            if 0 ≤ x.1 then (
            if x.1 < 256 then (
            if (x.1.toNat) < 256 then (
            if ((List.getD x.2.2.1 (x.1.toNat) 0) < (0:Int)) then
              ke (.inl (false, ()))
            else
              if 0 ≤ x.1 then (
              if x.1 < 256 then (
              if (x.1.toNat) < 256 then (
              if ((List.getD x.2.2.1 (x.1.toNat) 0) > (1023:Int)) then
                ke (.inl (false, ()))
              else
                kn ((IntKind.i64.wrap (x.1 + (1:Int))), x.2.1, x.2.2.1, x.2.2.2.1, x.2.2.2.2.1, x.2.2.2.2.2.1, ())) else none) else none) else none) else none) else none) else none) else none) else none) else none) else none) else none) else none) else none) else none) else none) else none) else none) else none) else none) else none) else none) else none) else none) else none) else none) else none) else none) else none) else none) else none
  else
    ke (.inr (()))
noncomputable def p_law15_DringParts_l7_go : Go' ((Bool × Unit) ⊕ (Unit)) := fun y K => match y with
  | .inl y => K .ret { tmps := [.one .any, .one .any, .one (.sc (.known y.1)), .one .any, .one .any, .one .any, .one .any, .one .any, .one .any, .one .any, .one .any, .one .any, .one .any, .one .any, .one .any, .one .any, .one .any, .one .any, .one .any, .one .any, .one .any, .one .any, .one .any, .one .any, .one .any, .one .any, .one .any, .one .any, .one .any, .one .any, .one .any, .one .any, .one .any, .one .any, .one .any, .one .any, .one .any, .one .any, .one .any, .one .any, .one .any, .one .any, .one .any, .one .any, .one .any, .one .any, .one .any, .one .any, .one .any, .one .any, .one .any, .one .any, .one .any, .one .any, .one .any, .one .any, .one .any, .one .any, .one .any, .one .any, .one .any, .one .any, .one .any, .one .any, .one .any, .one .any, .one .any, .one .any, .one .any, .one .any, .one .any, .one .any, .one .any, .one .any, .one .any, .one .any, .one .any, .one .any, .one .any, .one .any, .one .any, .one .any, .one .any, .one .any, .one .any, .one .any, .one .any, .one .any, .one .any, .one .any, .one .any, .one .any, .one .any, .one .any, .one .any, .one .any, .one .any, .one .any, .one .any, .one .any, .one .any, .one .any, .one .any, .one .any], mem := [] }
  | .inr y => K (.exit 0) { tmps := [.one .any, .one .any, .one .any, .one .any, .one .any, .one .any, .one .any, .one .any, .one .any, .one .any, .one .any, .one .any, .one .any, .one .any, .one .any, .one .any, .one .any, .one .any, .one .any, .one .any, .one .any, .one .any, .one .any, .one .any, .one .any, .one .any, .one .any, .one .any, .one .any, .one .any, .one .any, .one .any, .one .any, .one .any, .one .any, .one .any, .one .any, .one .any, .one .any, .one .any, .one .any, .one .any, .one .any, .one .any, .one .any, .one .any, .one .any, .one .any, .one .any, .one .any, .one .any, .one .any, .one .any, .one .any, .one .any, .one .any, .one .any, .one .any, .one .any, .one .any, .one .any, .one .any, .one .any, .one .any, .one .any, .one .any, .one .any, .one .any, .one .any, .one .any, .one .any, .one .any, .one .any, .one .any, .one .any, .one .any, .one .any, .one .any, .one .any, .one .any, .one .any, .one .any, .one .any, .one .any, .one .any, .one .any, .one .any, .one .any, .one .any, .one .any, .one .any, .one .any, .one .any, .one .any, .one .any, .one .any, .one .any, .one .any, .one .any, .one .any, .one .any, .one .any, .one .any, .one .any], mem := [] }
noncomputable def p_law15_DringParts_l7_L (N : Nat) : LT := upd (LT.nil) 7 (loopE p_law15_DringParts_l7_S N (p_law15_DringParts_l7_F N) p_law15_DringParts_l7_go)
theorem p_law15_DringParts_l7_ok (N : Nat) : OkAll p_law15_DringParts_E p_law15_DringParts_H N (p_law15_DringParts_l7_L N) (subs p_law15_DringParts_c) :=
  addLoop (c := theLoop 7 p_law15_DringParts_c) (OkAll.nil) (by kernel_rfl) (fun x => by kernel_rfl) (fun β x kn ke => by kernel_rfl)
abbrev p_law15_DringParts_ks : List Kd := [.xs (.int .i32) 256]
abbrev p_law15_DringParts_rs : List Kd := [.bool]
noncomputable def p_law15_DringParts (N : Nat) (x : List Int × Unit) : Option (Bool) :=
  (g_dring_Reduce (x.1, ())).bind fun r1 => (
  (g_dring_Power2Round (x.1, ())).bind fun r2 => (
  (g_dring_Decompose (x.1, ())).bind fun r3 => (
  (g_law15_live (())).bind fun r4 => (
  if (¬ (r4 = true)) then
    some false
  else
    (g_dring_Norm (r2.2, ())).bind fun r5 => (
    if (r5 > (4096:Int)) then
      some false
    else
      (g_dring_Norm (r3.2, ())).bind fun r6 => (
      if (r6 > (261888:Int)) then
        some false
      else
        iter (p_law15_DringParts_l7_F N) N ((0:Int), r1, r2.1, r2.2, r3.1, r3.2, ()) fun y => (match y with
        | .inl y7 => (
          some y7.1)
        | .inr y8 => (
          some true))))))))
theorem p_law15_DringParts_eq (N : Nat) (x : Ds [.xs (.int .i32) 256]) : funL p_law15_DringParts_E p_law15_DringParts_H (p_law15_DringParts_l7_L N) N Go.Proofs.Try.f4 p_law15_DringParts_c [.xs (.int .i32) 256] [.bool] x = p_law15_DringParts N x := by kernel_rfl
theorem p_law15_DringParts_Eok (he_dring_Reduce : SigOk Go.Proofs.Try.prog 18 ⟨[.xs (.int .i32) 256], [.xs (.int .i32) 256], g_dring_Reduce⟩) (he_dring_Power2Round : SigOk Go.Proofs.Try.prog 13 ⟨[.xs (.int .i32) 256], [.xs (.int .i32) 256, .xs (.int .i32) 256], g_dring_Power2Round⟩) (he_dring_Decompose : SigOk Go.Proofs.Try.prog 15 ⟨[.xs (.int .i32) 256], [.xs (.int .i32) 256, .xs (.int .i32) 256], g_dring_Decompose⟩) (he_law15_live : SigOk Go.Proofs.Try.prog 17 ⟨[], [.bool], g_law15_live⟩) (he_dring_Norm : SigOk Go.Proofs.Try.prog 19 ⟨[.xs (.int .i32) 256], [.int .i32], g_dring_Norm⟩) : p_law15_DringParts_E.Ok Go.Proofs.Try.prog := AE.of_ok (all_cons ty2_ok (all_cons ty21_ok (all_cons ty23_ok all_nil))) (all_cons ⟨he_dring_Reduce, enters_dring_Reduce⟩ (all_cons ⟨he_dring_Power2Round, enters_dring_Power2Round⟩ (all_cons ⟨he_dring_Decompose, enters_dring_Decompose⟩ (all_cons ⟨he_law15_live, enters_law15_live⟩ (all_cons ⟨he_dring_Norm, enters_dring_Norm⟩ all_nil)))))
theorem p_law15_DringParts_ok (he_dring_Reduce : SigOk Go.Proofs.Try.prog 18 ⟨[.xs (.int .i32) 256], [.xs (.int .i32) 256], g_dring_Reduce⟩) (he_dring_Power2Round : SigOk Go.Proofs.Try.prog 13 ⟨[.xs (.int .i32) 256], [.xs (.int .i32) 256, .xs (.int .i32) 256], g_dring_Power2Round⟩) (he_dring_Decompose : SigOk Go.Proofs.Try.prog 15 ⟨[.xs (.int .i32) 256], [.xs (.int .i32) 256, .xs (.int .i32) 256], g_dring_Decompose⟩) (he_law15_live : SigOk Go.Proofs.Try.prog 17 ⟨[], [.bool], g_law15_live⟩) (he_dring_Norm : SigOk Go.Proofs.Try.prog 19 ⟨[.xs (.int .i32) 256], [.int .i32], g_dring_Norm⟩) {g : Ds [.xs (.int .i32) 256] → Option (Rs [.bool])} (hg : ∀ x r, g x = some r → ∃ N, p_law15_DringParts N x = some r) : SigOk Go.Proofs.Try.prog 4 ⟨[.xs (.int .i32) 256], [.bool], g⟩ :=
  fun_of (E := p_law15_DringParts_E) (H := p_law15_DringParts_H) (L := fun N => p_law15_DringParts_l7_L N) (c := p_law15_DringParts_c) (ks := p_law15_DringParts_ks) (rs := p_law15_DringParts_rs) (F := p_law15_DringParts) (p_law15_DringParts_Eok he_dring_Reduce he_dring_Power2Round he_dring_Decompose he_law15_live he_dring_Norm) mix Go.Proofs.Try.func4 (by kernel_rfl) (fun N => p_law15_DringParts_l7_ok N) p_law15_DringParts_eq hg

/-! livery/liverylaw15.DringHints -/
noncomputable def p_law15_DringHints_E : AE := AE.of [(4, ty4), (21, ty21), (23, ty23), (31, ty31)] [(20, ⟨[.xs (.int .i32) 256, .xs (.int .i32) 256], [.xs .bool 256, .int .i64], g_dring_MakeHint⟩), (21, ⟨[.xs (.int .i32) 256, .xs (.int .i32) 256], [.xs .bool 256, .int .i64], g_ref15_MakeHint⟩), (17, ⟨[], [.bool], g_law15_live⟩), (22, ⟨[.xs .bool 256, .xs (.int .i32) 256], [.xs (.int .i32) 256], g_dring_UseHint⟩), (23, ⟨[.xs .bool 256, .xs (.int .i32) 256], [.xs (.int .i32) 256], g_ref15_UseHint⟩)]
noncomputable def p_law15_DringHints_H : Hints := [(3000000, [6])]
noncomputable def p_law15_DringHints_c : Code := (Go.Proofs.Try.f5).body.getD .skip
abbrev p_law15_DringHints_ks : List Kd := [.xs (.int .i32) 256, .xs (.int .i32) 256, .xs .bool 256]
abbrev p_law15_DringHints_rs : List Kd := [.bool]
noncomputable def p_law15_DringHints (N : Nat) (x : List Int × List Int × List Int × Unit) : Option (Bool) :=
  (g_dring_MakeHint (x.1, x.2.1, ())).bind fun r1 => (
  (g_ref15_MakeHint (x.1, x.2.1, ())).bind fun r2 => (
  (g_law15_live (())).bind fun r3 => (
  if (r3 = true) then
    if ((List.map (· != 0) r1.1) = (List.map (· != 0) r2.1)) then
      if (r1.2 = r2.2) then
        (g_dring_UseHint (x.2.2.1, x.2.1, ())).bind fun r4 => (
        (g_ref15_UseHint (x.2.2.1, x.2.1, ())).bind fun r5 => (
        some (decide (r4 = r5))))
      else
        some false
    else
      some false
  else
    some false)))
theorem p_law15_DringHints_eq (N : Nat) (x : Ds [.xs (.int .i32) 256, .xs (.int .i32) 256, .xs .bool 256]) : funL p_law15_DringHints_E p_law15_DringHints_H (LT.nil) N Go.Proofs.Try.f5 p_law15_DringHints_c [.xs (.int .i32) 256, .xs (.int .i32) 256, .xs .bool 256] [.bool] x = p_law15_DringHints N x := by kernel_rfl
theorem p_law15_DringHints_Eok (he_dring_MakeHint : SigOk Go.Proofs.Try.prog 20 ⟨[.xs (.int .i32) 256, .xs (.int .i32) 256], [.xs .bool 256, .int .i64], g_dring_MakeHint⟩) (he_ref15_MakeHint : SigOk Go.Proofs.Try.prog 21 ⟨[.xs (.int .i32) 256, .xs (.int .i32) 256], [.xs .bool 256, .int .i64], g_ref15_MakeHint⟩) (he_law15_live : SigOk Go.Proofs.Try.prog 17 ⟨[], [.bool], g_law15_live⟩) (he_dring_UseHint : SigOk Go.Proofs.Try.prog 22 ⟨[.xs .bool 256, .xs (.int .i32) 256], [.xs (.int .i32) 256], g_dring_UseHint⟩) (he_ref15_UseHint : SigOk Go.Proofs.Try.prog 23 ⟨[.xs .bool 256, .xs (.int .i32) 256], [.xs (.int .i32) 256], g_ref15_UseHint⟩) : p_law15_DringHints_E.Ok Go.Proofs.Try.prog := AE.of_ok (all_cons ty4_ok (all_cons ty21_ok (all_cons ty23_ok (all_cons ty31_ok all_nil)))) (all_cons ⟨he_dring_MakeHint, enters_dring_MakeHint⟩ (all_cons ⟨he_ref15_MakeHint, enters_ref15_MakeHint⟩ (all_cons ⟨he_law15_live, enters_law15_live⟩ (all_cons ⟨he_dring_UseHint, enters_dring_UseHint⟩ (all_cons ⟨he_ref15_UseHint, enters_ref15_UseHint⟩ all_nil)))))
theorem p_law15_DringHints_ok (he_dring_MakeHint : SigOk Go.Proofs.Try.prog 20 ⟨[.xs (.int .i32) 256, .xs (.int .i32) 256], [.xs .bool 256, .int .i64], g_dring_MakeHint⟩) (he_ref15_MakeHint : SigOk Go.Proofs.Try.prog 21 ⟨[.xs (.int .i32) 256, .xs (.int .i32) 256], [.xs .bool 256, .int .i64], g_ref15_MakeHint⟩) (he_law15_live : SigOk Go.Proofs.Try.prog 17 ⟨[], [.bool], g_law15_live⟩) (he_dring_UseHint : SigOk Go.Proofs.Try.prog 22 ⟨[.xs .bool 256, .xs (.int .i32) 256], [.xs (.int .i32) 256], g_dring_UseHint⟩) (he_ref15_UseHint : SigOk Go.Proofs.Try.prog 23 ⟨[.xs .bool 256, .xs (.int .i32) 256], [.xs (.int .i32) 256], g_ref15_UseHint⟩) {g : Ds [.xs (.int .i32) 256, .xs (.int .i32) 256, .xs .bool 256] → Option (Rs [.bool])} (hg : ∀ x r, g x = some r → ∃ N, p_law15_DringHints N x = some r) : SigOk Go.Proofs.Try.prog 5 ⟨[.xs (.int .i32) 256, .xs (.int .i32) 256, .xs .bool 256], [.bool], g⟩ :=
  fun_of (E := p_law15_DringHints_E) (H := p_law15_DringHints_H) (L := fun N => LT.nil) (c := p_law15_DringHints_c) (ks := p_law15_DringHints_ks) (rs := p_law15_DringHints_rs) (F := p_law15_DringHints) (p_law15_DringHints_Eok he_dring_MakeHint he_ref15_MakeHint he_law15_live he_dring_UseHint he_ref15_UseHint) mix Go.Proofs.Try.func5 (by kernel_rfl) (fun N => OkAll.nil) p_law15_DringHints_eq hg

/-! livery/liverylaw15.DringMends -/
noncomputable def p_law15_DringMends_E : AE := AE.of [(4, ty4), (21, ty21), (23, ty23), (31, ty31)] [(17, ⟨[], [.bool], g_law15_live⟩), (19, ⟨[.xs (.int .i32) 256], [.int .i32], g_dring_Norm⟩), (20, ⟨[.xs (.int .i32) 256, .xs (.int .i32) 256], [.xs .bool 256, .int .i64], g_dring_MakeHint⟩), (24, ⟨[.xs (.int .i32) 256, .xs (.int .i32) 256], [.xs (.int .i32) 256], g_dring_Add⟩), (15, ⟨[.xs (.int .i32) 256], [.xs (.int .i32) 256, .xs (.int .i32) 256], g_dring_Decompose⟩), (22, ⟨[.xs .bool 256, .xs (.int .i32) 256], [.xs (.int .i32) 256], g_dring_UseHint⟩)]
noncomputable def p_law15_DringMends_H : Hints := [(7, [3, 5, 6, 7, 9, 32]), (2000000, [3, 5, 6, 7, 9]), (2000001, [3, 5, 6, 7, 9, 32]), (3000000, [4])]
noncomputable def p_law15_DringMends_c : Code := (Go.Proofs.Try.f6).body.getD .skip
noncomputable def p_law15_DringMends_l7_S : Shape where
  h := { tmps := [.any, .any, .any, .sc (.ptr 0 0 false), .any, .sc (.ptr 1 0 false), .sc (.int .i64), .sc (.ptr 2 0 false), .any, .sc (.int .i64), .any, .any, .any, .any, .any, .any, .any, .any, .any, .any, .any, .any, .any, .any, .any, .any, .any, .any, .any, .any, .any, .any, .sc (.int .i64), .any, .any, .any, .any, .any, .any, .any, .any, .any, .any, .any, .any, .any, .any, .any, .any, .any, .any], mem := [.live [.xs (.int .i32) (some 256)] true, .live [.xs .bool (some 256)] true, .live [.xs (.int .i32) (some 256)] true] }
  ks := [.int, .int, .int, .xs, .xs, .xs]
  st := fun x => { tmps := [.one .any, .one .any, .one .any, .one (.sc (.ptr 0 0 none)), .one .any, .one (.sc (.ptr 1 0 none)), .one (.sc (.int .i64 x.1)), .one (.sc (.ptr 2 0 none)), .one .any, .one (.sc (.int .i64 x.2.1)), .one .any, .one .any, .one .any, .one .any, .one .any, .one .any, .one .any, .one .any, .one .any, .one .any, .one .any, .one .any, .one .any, .one .any, .one .any, .one .any, .one .any, .one .any, .one .any, .one .any, .one .any, .one .any, .one (.sc (.int .i64 x.2.2.1)), .one .any, .one .any, .one .any, .one .any, .one .any, .one .any, .one .any, .one .any, .one .any, .one .any, .one .any, .one .any, .one .any, .one .any, .one .any, .one .any, .one .any, .one .any], mem := [.live { segs := [.xs (.int .i32) 256 x.2.2.2.1], own := true }, .live { segs := [.xs .bool 256 x.2.2.2.2.1], own := true }, .live { segs := [.xs (.int .i32) 256 x.2.2.2.2.2.1], own := true }] }
noncomputable def p_law15_DringMends_l7_F (N : Nat) (β : Type) (x : (Int × Int × Int × List Int × List Int × List Int × Unit)) (kn : (Int × Int × Int × List Int × List Int × List Int × Unit) → Option β) (ke : ((Int × Int × List Int × List Int × List Int × Unit)) → Option β) : Option β :=
  if (x.2.2.1 < (256:Int)) then
    if 0 ≤ x.2.2.1 then (
    if x.2.2.1 < 256 then (
    if (x.2.2.1.toNat) < 256 then (
    if ((List.getD x.2.2.2.2.1 (x.2.2.1.toNat) 0) ≠ 0) then
      kn (x.1, (IntKind.i64.wrap (x.2.1 + (1:Int))), (IntKind.i64.wrap (x.2.2.1 + (1:Int))), x.2.2.2.1, x.2.2.2.2.1, x.2.2.2.2.2.1, ())
    else
      kn (x.1, x.2.1, (IntKind.i64.wrap (x.2.2.1 + (1:Int))), x.2.2.2.1, x.2.2.2.2.1, x.2.2.2.2.2.1, ())) else none) else none) else none
  else
    ke (x.1, x.2.1, x.2.2.2.1, x.2.2.2.2.1, x.2.2.2.2.2.1, ())
noncomputable def p_law15_DringMends_l7_go : Go' ((Int × Int × List Int × List Int × List Int × Unit)) := fun y K => K (.exit 0) { tmps := [.one .any, .one .any, .one .any, .one (.sc (.ptr 0 0 none)), .one .any, .one (.sc (.ptr 1 0 none)), .one (.sc (.int .i64 y.1)), .one (.sc (.ptr 2 0 none)), .one .any, .one (.sc (.int .i64 y.2.1)), .one .any, .one .any, .one .any, .one .any, .one .any, .one .any, .one .any, .one .any, .one .any, .one .any, .one .any, .one .any, .one .any, .one .any, .one .any, .one .any, .one .any, .one .any, .one .any, .one .any, .one .any, .one .any, .one .any, .one .any, .one .any, .one .any, .one .any, .one .any, .one .any, .one .any, .one .any, .one .any, .one .any, .one .any, .one .any, .one .any, .one .any, .one .any, .one .any, .one .any, .one .any], mem := [.live { segs := [.xs (.int .i32) 256 y.2.2.1], own := true }, .live { segs := [.xs .bool 256 y.2.2.2.1], own := true }, .live { segs := [.xs (.int .i32) 256 y.2.2.2.2.1], own := true }] }
noncomputable def p_law15_DringMends_l7_L (N : Nat) : LT := upd (LT.nil) 7 (loopE p_law15_DringMends_l7_S N (p_law15_DringMends_l7_F N) p_law15_DringMends_l7_go)
theorem p_law15_DringMends_l7_ok (N : Nat) : OkAll p_law15_DringMends_E p_law15_DringMends_H N (p_law15_DringMends_l7_L N) (subs p_law15_DringMends_c) :=
  addLoop (c := theLoop 7 p_law15_DringMends_c) (OkAll.nil) (by kernel_rfl) (fun x => by kernel_rfl) (fun β x kn ke => by kernel_rfl)
abbrev p_law15_DringMends_ks : List Kd := [.xs (.int .i32) 256, .xs (.int .i32) 256]
abbrev p_law15_DringMends_rs : List Kd := [.bool]
noncomputable def p_law15_DringMends (N : Nat) (x : List Int × List Int × Unit) : Option (Bool) :=
  (g_law15_live (())).bind fun r1 => (
  if (¬ (r1 = true)) then
    (g_law15_live (())).bind fun r2 => (
    some (decide (r2 = true)))
  else
    (g_dring_Norm (x.1, ())).bind fun r3 => (
    if (r3 > (261888:Int)) then
      (g_law15_live (())).bind fun r4 => (
      some (decide (r4 = true)))
    else
      (g_dring_MakeHint (x.1, x.2.1, ())).bind fun r5 => (
      (g_dring_Add (x.2.1, x.1, ())).bind fun r6 => (
      (g_dring_Decompose (r6, ())).bind fun r7 => (
      iter (p_law15_DringMends_l7_F N) N (r5.2, (0:Int), (0:Int), x.2.1, r5.1, r7.1, ()) fun y8 => (
      (g_dring_UseHint (y8.2.2.2.1, y8.2.2.1, ())).bind fun r9 => (
      if (r9 = y8.2.2.2.2.1) then
        some (decide (y8.1 = y8.2.1))
      else
        some false)))))))
theorem p_law15_DringMends_eq (N : Nat) (x : Ds [.xs (.int .i32) 256, .xs (.int .i32) 256]) : funL p_law15_DringMends_E p_law15_DringMends_H (p_law15_DringMends_l7_L N) N Go.Proofs.Try.f6 p_law15_DringMends_c [.xs (.int .i32) 256, .xs (.int .i32) 256] [.bool] x = p_law15_DringMends N x := by kernel_rfl
theorem p_law15_DringMends_Eok (he_law15_live : SigOk Go.Proofs.Try.prog 17 ⟨[], [.bool], g_law15_live⟩) (he_dring_Norm : SigOk Go.Proofs.Try.prog 19 ⟨[.xs (.int .i32) 256], [.int .i32], g_dring_Norm⟩) (he_dring_MakeHint : SigOk Go.Proofs.Try.prog 20 ⟨[.xs (.int .i32) 256, .xs (.int .i32) 256], [.xs .bool 256, .int .i64], g_dring_MakeHint⟩) (he_dring_Add : SigOk Go.Proofs.Try.prog 24 ⟨[.xs (.int .i32) 256, .xs (.int .i32) 256], [.xs (.int .i32) 256], g_dring_Add⟩) (he_dring_Decompose : SigOk Go.Proofs.Try.prog 15 ⟨[.xs (.int .i32) 256], [.xs (.int .i32) 256, .xs (.int .i32) 256], g_dring_Decompose⟩) (he_dring_UseHint : SigOk Go.Proofs.Try.prog 22 ⟨[.xs .bool 256, .xs (.int .i32) 256], [.xs (.int .i32) 256], g_dring_UseHint⟩) : p_law15_DringMends_E.Ok Go.Proofs.Try.prog := AE.of_ok (all_cons ty4_ok (all_cons ty21_ok (all_cons ty23_ok (all_cons ty31_ok all_nil)))) (all_cons ⟨he_law15_live, enters_law15_live⟩ (all_cons ⟨he_dring_Norm, enters_dring_Norm⟩ (all_cons ⟨he_dring_MakeHint, enters_dring_MakeHint⟩ (all_cons ⟨he_dring_Add, enters_dring_Add⟩ (all_cons ⟨he_dring_Decompose, enters_dring_Decompose⟩ (all_cons ⟨he_dring_UseHint, enters_dring_UseHint⟩ all_nil))))))
theorem p_law15_DringMends_ok (he_law15_live : SigOk Go.Proofs.Try.prog 17 ⟨[], [.bool], g_law15_live⟩) (he_dring_Norm : SigOk Go.Proofs.Try.prog 19 ⟨[.xs (.int .i32) 256], [.int .i32], g_dring_Norm⟩) (he_dring_MakeHint : SigOk Go.Proofs.Try.prog 20 ⟨[.xs (.int .i32) 256, .xs (.int .i32) 256], [.xs .bool 256, .int .i64], g_dring_MakeHint⟩) (he_dring_Add : SigOk Go.Proofs.Try.prog 24 ⟨[.xs (.int .i32) 256, .xs (.int .i32) 256], [.xs (.int .i32) 256], g_dring_Add⟩) (he_dring_Decompose : SigOk Go.Proofs.Try.prog 15 ⟨[.xs (.int .i32) 256], [.xs (.int .i32) 256, .xs (.int .i32) 256], g_dring_Decompose⟩) (he_dring_UseHint : SigOk Go.Proofs.Try.prog 22 ⟨[.xs .bool 256, .xs (.int .i32) 256], [.xs (.int .i32) 256], g_dring_UseHint⟩) {g : Ds [.xs (.int .i32) 256, .xs (.int .i32) 256] → Option (Rs [.bool])} (hg : ∀ x r, g x = some r → ∃ N, p_law15_DringMends N x = some r) : SigOk Go.Proofs.Try.prog 6 ⟨[.xs (.int .i32) 256, .xs (.int .i32) 256], [.bool], g⟩ :=
  fun_of (E := p_law15_DringMends_E) (H := p_law15_DringMends_H) (L := fun N => p_law15_DringMends_l7_L N) (c := p_law15_DringMends_c) (ks := p_law15_DringMends_ks) (rs := p_law15_DringMends_rs) (F := p_law15_DringMends) (p_law15_DringMends_Eok he_law15_live he_dring_Norm he_dring_MakeHint he_dring_Add he_dring_Decompose he_dring_UseHint) mix Go.Proofs.Try.func6 (by kernel_rfl) (fun N => p_law15_DringMends_l7_ok N) p_law15_DringMends_eq hg
end Go.Ax.TryP
