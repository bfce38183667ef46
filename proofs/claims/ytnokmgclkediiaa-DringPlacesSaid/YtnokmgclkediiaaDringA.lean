/- A part of the proof: DringS1, DringP1, DringQ1, DringW1. -/
import Derived.Test.YtnokmgclkediiaaAxC
import Derived.Test.YtnokmgclkediiaaDringT
/-! ### What the functions of the ring modulo 8380417 compute -/
namespace Go.Ax.TryP

def dpoly (h : Nat → Int) : List Int := (List.range 256).map h
def dzeros : List Int := List.replicate 256 0
def fDRed (a : List Int) : List Int := dpoly fun i => a.getD i 0 % 8380417
def fNear (x m : Int) : Int := if x % m > m / 2 then x % m - m else x % m
def fPl (z : Int) : Int := fNear (z % 8380417) 8192
def fPh (z : Int) : Int := (z % 8380417 - fPl z) / 8192
def fDl0 (z : Int) : Int := fNear (z % 8380417) 523776
def fDl (z : Int) : Int := if z % 8380417 - fDl0 z = 8380416 then fDl0 z - 1 else fDl0 z
def fDh (z : Int) : Int := if z % 8380417 - fDl0 z = 8380416 then 0 else (z % 8380417 - fDl0 z) / 523776
def fP2R (a : List Int) : List Int × List Int := (dpoly fun i => fPh (a.getD i 0), dpoly fun i => fPl (a.getD i 0))
def fDec (a : List Int) : List Int × List Int := (dpoly fun i => fDh (a.getD i 0), dpoly fun i => fDl (a.getD i 0))

noncomputable def g_dring_below : Int × Unit → Option Int := Spec (ks := [.int .i64]) (rs := [.int .i32]) (fun _ => True) fun x => x.1 % 8380417
noncomputable def g_dring_Reduce_1 : Int × Unit → Option Int := Spec (ks := [.int .i32]) (rs := [.int .i32]) (fun _ => True) fun x => x.1 % 8380417
noncomputable def g_dring_each__dring_Reduce_1 : List Int × Unit × Unit → Option (List Int) := Spec (ks := [.xs (.int .i32) 256, .fnc 58]) (rs := [.xs (.int .i32) 256]) (fun _ => True) fun x => fDRed x.1
noncomputable def g_dring_Reduce : List Int × Unit → Option (List Int) := Spec (ks := [.xs (.int .i32) 256]) (rs := [.xs (.int .i32) 256]) (fun _ => True) fun x => fDRed x.1
noncomputable def g_dring_near : Int × Int × Unit → Option Int := Spec (ks := [.int .i32, .int .i32]) (rs := [.int .i32]) (fun x => 0 ≤ x.1 ∧ x.1 ≤ 8380416 ∧ 0 < x.2.1 ∧ x.2.1 ≤ 523776) fun x => fNear x.1 x.2.1
noncomputable def g_dring_parts : Int × Unit → Option (Int × Int) := Spec (ks := [.int .i32]) (rs := [.int .i32, .int .i32]) (fun _ => True) fun x => (fDh x.1, fDl x.1)
noncomputable def g_dring_Power2Round : List Int × Unit → Option (List Int × List Int) := Spec (ks := [.xs (.int .i32) 256]) (rs := [.xs (.int .i32) 256, .xs (.int .i32) 256]) (fun _ => True) fun x => fP2R x.1
noncomputable def g_dring_Decompose : List Int × Unit → Option (List Int × List Int) := Spec (ks := [.xs (.int .i32) 256]) (rs := [.xs (.int .i32) 256, .xs (.int .i32) 256]) (fun _ => True) fun x => fDec x.1
noncomputable def g_ref15_mod : Int × Unit → Option Int := Spec (ks := [.int .i64]) (rs := [.int .i64]) (fun _ => True) fun x => x.1 % 8380417
noncomputable def g_ref15_Reduce : List Int × Unit → Option (List Int) := Spec (ks := [.xs (.int .i32) 256]) (rs := [.xs (.int .i32) 256]) (fun _ => True) fun x => fDRed x.1
noncomputable def g_ref15_Power2Round : List Int × Unit → Option (List Int × List Int) := Spec (ks := [.xs (.int .i32) 256]) (rs := [.xs (.int .i32) 256, .xs (.int .i32) 256]) (fun _ => True) fun x => fP2R x.1
noncomputable def g_ref15_Decompose : List Int × Unit → Option (List Int × List Int) := Spec (ks := [.xs (.int .i32) 256]) (rs := [.xs (.int .i32) 256, .xs (.int .i32) 256]) (fun _ => True) fun x => fDec x.1
noncomputable def g_law15_live : Unit → Option Bool := Spec (ks := []) (rs := [.bool]) (fun _ => True) fun _ => true
noncomputable def g_law15_DringRounds : List Int × Unit → Option Bool := Spec (ks := [.xs (.int .i32) 256]) (rs := [.bool]) (fun _ => True) fun _ => true
end Go.Ax.TryP
/-! Printed by program (gen.py). -/
set_option linter.unusedVariables false
namespace Go.Ax.TryP
/-! livery/dring.below -/
noncomputable def p_dring_below_E : AE := AE.of [(2, ty2), (21, ty21)] []
noncomputable def p_dring_below_H : Hints := [(3000000, [2])]
noncomputable def p_dring_below_c : Code := (Go.Proofs.Try.f59).body.getD .skip
abbrev p_dring_below_ks : List Kd := [.int .i64]
abbrev p_dring_below_rs : List Kd := [.int .i32]
noncomputable def p_dring_below (N : Nat) (x : Int × Unit) : Option (Int) :=
  if ((Int.tmod x.1 (8380417:Int)) < (0:Int)) then
    some (IntKind.i32.wrap (IntKind.i64.wrap ((Int.tmod x.1 (8380417:Int)) + (8380417:Int))))
  else
    some (IntKind.i32.wrap (Int.tmod x.1 (8380417:Int)))
theorem p_dring_below_eq (N : Nat) (x : Ds [.int .i64]) : funL p_dring_below_E p_dring_below_H (LT.nil) N Go.Proofs.Try.f59 p_dring_below_c [.int .i64] [.int .i32] x = p_dring_below N x := by kernel_rfl
theorem p_dring_below_Eok : p_dring_below_E.Ok Go.Proofs.Try.prog := AE.of_ok (all_cons ty2_ok (all_cons ty21_ok all_nil)) all_nil
theorem p_dring_below_ok {g : Ds [.int .i64] → Option (Rs [.int .i32])} (hg : ∀ x r, g x = some r → ∃ N, p_dring_below N x = some r) : SigOk Go.Proofs.Try.prog 59 ⟨[.int .i64], [.int .i32], g⟩ :=
  fun_of (E := p_dring_below_E) (H := p_dring_below_H) (L := fun N => LT.nil) (c := p_dring_below_c) (ks := p_dring_below_ks) (rs := p_dring_below_rs) (F := p_dring_below) (p_dring_below_Eok) mix Go.Proofs.Try.func59 (by kernel_rfl) (fun N => OkAll.nil) p_dring_below_eq hg

/-! livery/dring.Reduce$1 -/
noncomputable def p_dring_Reduce_1_E : AE := AE.of [(2, ty2), (21, ty21)] [(59, ⟨[.int .i64], [.int .i32], g_dring_below⟩)]
noncomputable def p_dring_Reduce_1_H : Hints := [(3000000, [2])]
noncomputable def p_dring_Reduce_1_c : Code := (Go.Proofs.Try.f58).body.getD .skip
abbrev p_dring_Reduce_1_ks : List Kd := [.int .i32]
abbrev p_dring_Reduce_1_rs : List Kd := [.int .i32]
noncomputable def p_dring_Reduce_1 (N : Nat) (x : Int × Unit) : Option (Int) :=
  (g_dring_below ((IntKind.i64.wrap x.1), ())).bind fun r1 => (
  some r1)
theorem p_dring_Reduce_1_eq (N : Nat) (x : Ds [.int .i32]) : funL p_dring_Reduce_1_E p_dring_Reduce_1_H (LT.nil) N Go.Proofs.Try.f58 p_dring_Reduce_1_c [.int .i32] [.int .i32] x = p_dring_Reduce_1 N x := by kernel_rfl
theorem p_dring_Reduce_1_Eok (he_dring_below : SigOk Go.Proofs.Try.prog 59 ⟨[.int .i64], [.int .i32], g_dring_below⟩) : p_dring_Reduce_1_E.Ok Go.Proofs.Try.prog := AE.of_ok (all_cons ty2_ok (all_cons ty21_ok all_nil)) (all_cons ⟨he_dring_below, enters_dring_below⟩ all_nil)
theorem p_dring_Reduce_1_ok (he_dring_below : SigOk Go.Proofs.Try.prog 59 ⟨[.int .i64], [.int .i32], g_dring_below⟩) {g : Ds [.int .i32] → Option (Rs [.int .i32])} (hg : ∀ x r, g x = some r → ∃ N, p_dring_Reduce_1 N x = some r) : SigOk Go.Proofs.Try.prog 58 ⟨[.int .i32], [.int .i32], g⟩ :=
  fun_of (E := p_dring_Reduce_1_E) (H := p_dring_Reduce_1_H) (L := fun N => LT.nil) (c := p_dring_Reduce_1_c) (ks := p_dring_Reduce_1_ks) (rs := p_dring_Reduce_1_rs) (F := p_dring_Reduce_1) (p_dring_Reduce_1_Eok he_dring_below) mix Go.Proofs.Try.func58 (by kernel_rfl) (fun N => OkAll.nil) p_dring_Reduce_1_eq hg

/-! livery/dring.each -/
noncomputable def p_dring_each__dring_Reduce_1_E : AE := AE.of [(21, ty21), (23, ty23)] [(58, ⟨[.int .i32], [.int .i32], g_dring_Reduce_1⟩)]
noncomputable def p_dring_each__dring_Reduce_1_H : Hints := [(2, [1, 2, 4, 7, 8]), (2000000, [2, 4]), (2000001, [1, 2, 4, 7, 8]), (3000000, [4])]
noncomputable def p_dring_each__dring_Reduce_1_c : Code := (Go.Proofs.Try.f57).body.getD .skip
noncomputable def p_dring_each__dring_Reduce_1_l2_S : Shape where
  h := { tmps := [.any, .sc (.fn 58), .sc (.ptr 0 0 false), .any, .sc (.ptr 1 0 false), .any, .any, .agg [.xs (.int .i32) (some 256)], .sc (.int .i64), .any, .any, .any, .any, .any, .any, .any, .any, .any, .any], mem := [.live [.xs (.int .i32) (some 256)] (.own), .live [.xs (.int .i32) (some 256)] (.own)] }
  ks := [.xs, .int, .xs, .xs]
  st := fun x => { tmps := [.one .any, .one (.sc (.fn 58)), .one (.sc (.ptr 0 0 none)), .one .any, .one (.sc (.ptr 1 0 none)), .one .any, .one .any, .one (.agg [.xs (.int .i32) 256 x.1]), .one (.sc (.int .i64 x.2.1)), .one .any, .one .any, .one .any, .one .any, .one .any, .one .any, .one .any, .one .any, .one .any, .one .any], mem := [.live { segs := [.xs (.int .i32) 256 x.2.2.1], own := .own }, .live { segs := [.xs (.int .i32) 256 x.2.2.2.1], own := .own }] }
noncomputable def p_dring_each__dring_Reduce_1_l2_F (N : Nat) (β : Type) (x : (List Int × Int × List Int × List Int × Unit)) (kn : (List Int × Int × List Int × List Int × Unit) → Option β) (ke : ((List Int × List Int × Unit)) → Option β) : Option β :=
  if (x.2.1 < (256:Int)) then
    if 0 ≤ x.2.1 then (
    if x.2.1 < 256 then (
    if (x.2.1.toNat) < 256 then (
    (g_dring_Reduce_1 ((List.getD x.1 (x.2.1.toNat) 0), ())).bind fun r1 => (
    if 0 ≤ x.2.1 then (
    if x.2.1 < 256 then (
    if (x.2.1.toNat) < 256 then (
    kn (x.1, (IntKind.i64.wrap (x.2.1 + (1:Int))), (List.set x.2.2.1 (x.2.1.toNat) r1), x.2.2.2.1, ())) else none) else none) else none)) else none) else none) else none
  else
    ke (x.2.2.1, x.2.2.2.1, ())
noncomputable def p_dring_each__dring_Reduce_1_l2_go : Go' ((List Int × List Int × Unit)) := fun y K => K (.exit 0) { tmps := [.one .any, .one .any, .one (.sc (.ptr 0 0 none)), .one .any, .one (.sc (.ptr 1 0 none)), .one .any, .one .any, .one .any, .one .any, .one .any, .one .any, .one .any, .one .any, .one .any, .one .any, .one .any, .one .any, .one .any, .one .any], mem := [.live { segs := [.xs (.int .i32) 256 y.1], own := .own }, .live { segs := [.xs (.int .i32) 256 y.2.1], own := .own }] }
noncomputable def p_dring_each__dring_Reduce_1_l2_L (N : Nat) : LT := upd (LT.nil) 2 (loopE p_dring_each__dring_Reduce_1_l2_S N (p_dring_each__dring_Reduce_1_l2_F N) p_dring_each__dring_Reduce_1_l2_go)
theorem p_dring_each__dring_Reduce_1_l2_ok (N : Nat) : OkAll p_dring_each__dring_Reduce_1_E p_dring_each__dring_Reduce_1_H N (p_dring_each__dring_Reduce_1_l2_L N) (subs p_dring_each__dring_Reduce_1_c) :=
  addLoop (c := theLoop 2 p_dring_each__dring_Reduce_1_c) (OkAll.nil) (by kernel_rfl) (fun x => by kernel_rfl) (fun β x kn ke => by kernel_rfl)
abbrev p_dring_each__dring_Reduce_1_ks : List Kd := [.xs (.int .i32) 256, .fnc 58]
abbrev p_dring_each__dring_Reduce_1_rs : List Kd := [.xs (.int .i32) 256]
noncomputable def p_dring_each__dring_Reduce_1 (N : Nat) (x : List Int × Unit × Unit) : Option (List Int) :=
  iter (p_dring_each__dring_Reduce_1_l2_F N) N (x.1, (0:Int), x.1, (List.replicate 256 0), ()) fun y2 => (
  some y2.1)
theorem p_dring_each__dring_Reduce_1_eq (N : Nat) (x : Ds [.xs (.int .i32) 256, .fnc 58]) : funL p_dring_each__dring_Reduce_1_E p_dring_each__dring_Reduce_1_H (p_dring_each__dring_Reduce_1_l2_L N) N Go.Proofs.Try.f57 p_dring_each__dring_Reduce_1_c [.xs (.int .i32) 256, .fnc 58] [.xs (.int .i32) 256] x = p_dring_each__dring_Reduce_1 N x := by kernel_rfl
theorem p_dring_each__dring_Reduce_1_Eok (he_dring_Reduce_1 : SigOk Go.Proofs.Try.prog 58 ⟨[.int .i32], [.int .i32], g_dring_Reduce_1⟩) : p_dring_each__dring_Reduce_1_E.Ok Go.Proofs.Try.prog := AE.of_ok (all_cons ty21_ok (all_cons ty23_ok all_nil)) (all_cons ⟨he_dring_Reduce_1, enters_dring_Reduce_1⟩ all_nil)
theorem p_dring_each__dring_Reduce_1_ok (he_dring_Reduce_1 : SigOk Go.Proofs.Try.prog 58 ⟨[.int .i32], [.int .i32], g_dring_Reduce_1⟩) {g : Ds [.xs (.int .i32) 256, .fnc 58] → Option (Rs [.xs (.int .i32) 256])} (hg : ∀ x r, g x = some r → ∃ N, p_dring_each__dring_Reduce_1 N x = some r) : SigOk Go.Proofs.Try.prog 57 ⟨[.xs (.int .i32) 256, .fnc 58], [.xs (.int .i32) 256], g⟩ :=
  fun_of (E := p_dring_each__dring_Reduce_1_E) (H := p_dring_each__dring_Reduce_1_H) (L := fun N => p_dring_each__dring_Reduce_1_l2_L N) (c := p_dring_each__dring_Reduce_1_c) (ks := p_dring_each__dring_Reduce_1_ks) (rs := p_dring_each__dring_Reduce_1_rs) (F := p_dring_each__dring_Reduce_1) (p_dring_each__dring_Reduce_1_Eok he_dring_Reduce_1) mix Go.Proofs.Try.func57 (by kernel_rfl) (fun N => p_dring_each__dring_Reduce_1_l2_ok N) p_dring_each__dring_Reduce_1_eq hg

/-! livery/dring.Reduce -/
noncomputable def p_dring_Reduce_E : AE := AE.of [(23, ty23)] [(57, ⟨[.xs (.int .i32) 256, .fnc 58], [.xs (.int .i32) 256], g_dring_each__dring_Reduce_1⟩)]
noncomputable def p_dring_Reduce_H : Hints := [(3000000, [2])]
noncomputable def p_dring_Reduce_c : Code := (Go.Proofs.Try.f18).body.getD .skip
abbrev p_dring_Reduce_ks : List Kd := [.xs (.int .i32) 256]
abbrev p_dring_Reduce_rs : List Kd := [.xs (.int .i32) 256]
noncomputable def p_dring_Reduce (N : Nat) (x : List Int × Unit) : Option (List Int) :=
  (g_dring_each__dring_Reduce_1 (x.1, (), ())).bind fun r1 => (
  some r1)
theorem p_dring_Reduce_eq (N : Nat) (x : Ds [.xs (.int .i32) 256]) : funL p_dring_Reduce_E p_dring_Reduce_H (LT.nil) N Go.Proofs.Try.f18 p_dring_Reduce_c [.xs (.int .i32) 256] [.xs (.int .i32) 256] x = p_dring_Reduce N x := by kernel_rfl
theorem p_dring_Reduce_Eok (he_dring_each__dring_Reduce_1 : SigOk Go.Proofs.Try.prog 57 ⟨[.xs (.int .i32) 256, .fnc 58], [.xs (.int .i32) 256], g_dring_each__dring_Reduce_1⟩) : p_dring_Reduce_E.Ok Go.Proofs.Try.prog := AE.of_ok (all_cons ty23_ok all_nil) (all_cons ⟨he_dring_each__dring_Reduce_1, enters_dring_each⟩ all_nil)
theorem p_dring_Reduce_ok (he_dring_each__dring_Reduce_1 : SigOk Go.Proofs.Try.prog 57 ⟨[.xs (.int .i32) 256, .fnc 58], [.xs (.int .i32) 256], g_dring_each__dring_Reduce_1⟩) {g : Ds [.xs (.int .i32) 256] → Option (Rs [.xs (.int .i32) 256])} (hg : ∀ x r, g x = some r → ∃ N, p_dring_Reduce N x = some r) : SigOk Go.Proofs.Try.prog 18 ⟨[.xs (.int .i32) 256], [.xs (.int .i32) 256], g⟩ :=
  fun_of (E := p_dring_Reduce_E) (H := p_dring_Reduce_H) (L := fun N => LT.nil) (c := p_dring_Reduce_c) (ks := p_dring_Reduce_ks) (rs := p_dring_Reduce_rs) (F := p_dring_Reduce) (p_dring_Reduce_Eok he_dring_each__dring_Reduce_1) mix Go.Proofs.Try.func18 (by kernel_rfl) (fun N => OkAll.nil) p_dring_Reduce_eq hg

/-! livery/dring.near -/
noncomputable def p_dring_near_E : AE := AE.of [] []
noncomputable def p_dring_near_H : Hints := [(3000000, [4])]
noncomputable def p_dring_near_c : Code := (Go.Proofs.Try.f55).body.getD .skip
abbrev p_dring_near_ks : List Kd := [.int .i32, .int .i32]
abbrev p_dring_near_rs : List Kd := [.int .i32]
noncomputable def p_dring_near (N : Nat) (x : Int × Int × Unit) : Option (Int) :=
  if x.2.1 = 0 then none else (
  if ((Int.tmod x.1 x.2.1) > (IntKind.i32.wrap (Int.tdiv x.2.1 (2:Int)))) then
    some (IntKind.i32.wrap ((Int.tmod x.1 x.2.1) - x.2.1))
  else
    some (Int.tmod x.1 x.2.1))
theorem p_dring_near_eq (N : Nat) (x : Ds [.int .i32, .int .i32]) : funL p_dring_near_E p_dring_near_H (LT.nil) N Go.Proofs.Try.f55 p_dring_near_c [.int .i32, .int .i32] [.int .i32] x = p_dring_near N x := by kernel_rfl
theorem p_dring_near_Eok : p_dring_near_E.Ok Go.Proofs.Try.prog := AE.of_ok all_nil all_nil
theorem p_dring_near_ok {g : Ds [.int .i32, .int .i32] → Option (Rs [.int .i32])} (hg : ∀ x r, g x = some r → ∃ N, p_dring_near N x = some r) : SigOk Go.Proofs.Try.prog 55 ⟨[.int .i32, .int .i32], [.int .i32], g⟩ :=
  fun_of (E := p_dring_near_E) (H := p_dring_near_H) (L := fun N => LT.nil) (c := p_dring_near_c) (ks := p_dring_near_ks) (rs := p_dring_near_rs) (F := p_dring_near) (p_dring_near_Eok) mix Go.Proofs.Try.func55 (by kernel_rfl) (fun N => OkAll.nil) p_dring_near_eq hg

/-! livery/dring.parts -/
noncomputable def p_dring_parts_E : AE := AE.of [(2, ty2), (21, ty21)] [(59, ⟨[.int .i64], [.int .i32], g_dring_below⟩), (55, ⟨[.int .i32, .int .i32], [.int .i32], g_dring_near⟩)]
noncomputable def p_dring_parts_H : Hints := [(3000000, [2, 3])]
noncomputable def p_dring_parts_c : Code := (Go.Proofs.Try.f56).body.getD .skip
abbrev p_dring_parts_ks : List Kd := [.int .i32]
abbrev p_dring_parts_rs : List Kd := [.int .i32, .int .i32]
noncomputable def p_dring_parts (N : Nat) (x : Int × Unit) : Option (Int × Int) :=
  (g_dring_below ((IntKind.i64.wrap x.1), ())).bind fun r1 => (
  (g_dring_near (r1, (523776:Int), ())).bind fun r2 => (
  if ((IntKind.i32.wrap (r1 - r2)) = (8380416:Int)) then
    some ((0:Int), (IntKind.i32.wrap (r2 - (1:Int))))
  else
    some ((IntKind.i32.wrap (Int.tdiv (IntKind.i32.wrap (r1 - r2)) (523776:Int))), r2)))
theorem p_dring_parts_eq (N : Nat) (x : Ds [.int .i32]) : funL p_dring_parts_E p_dring_parts_H (LT.nil) N Go.Proofs.Try.f56 p_dring_parts_c [.int .i32] [.int .i32, .int .i32] x = p_dring_parts N x := by kernel_rfl
theorem p_dring_parts_Eok (he_dring_below : SigOk Go.Proofs.Try.prog 59 ⟨[.int .i64], [.int .i32], g_dring_below⟩) (he_dring_near : SigOk Go.Proofs.Try.prog 55 ⟨[.int .i32, .int .i32], [.int .i32], g_dring_near⟩) : p_dring_parts_E.Ok Go.Proofs.Try.prog := AE.of_ok (all_cons ty2_ok (all_cons ty21_ok all_nil)) (all_cons ⟨he_dring_below, enters_dring_below⟩ (all_cons ⟨he_dring_near, enters_dring_near⟩ all_nil))
theorem p_dring_parts_ok (he_dring_below : SigOk Go.Proofs.Try.prog 59 ⟨[.int .i64], [.int .i32], g_dring_below⟩) (he_dring_near : SigOk Go.Proofs.Try.prog 55 ⟨[.int .i32, .int .i32], [.int .i32], g_dring_near⟩) {g : Ds [.int .i32] → Option (Rs [.int .i32, .int .i32])} (hg : ∀ x r, g x = some r → ∃ N, p_dring_parts N x = some r) : SigOk Go.Proofs.Try.prog 56 ⟨[.int .i32], [.int .i32, .int .i32], g⟩ :=
  fun_of (E := p_dring_parts_E) (H := p_dring_parts_H) (L := fun N => LT.nil) (c := p_dring_parts_c) (ks := p_dring_parts_ks) (rs := p_dring_parts_rs) (F := p_dring_parts) (p_dring_parts_Eok he_dring_below he_dring_near) mix Go.Proofs.Try.func56 (by kernel_rfl) (fun N => OkAll.nil) p_dring_parts_eq hg

/-! livery/dring.Power2Round -/
noncomputable def p_dring_Power2Round_E : AE := AE.of [(21, ty21), (23, ty23)] [(18, ⟨[.xs (.int .i32) 256], [.xs (.int .i32) 256], g_dring_Reduce⟩), (55, ⟨[.int .i32, .int .i32], [.int .i32], g_dring_near⟩)]
noncomputable def p_dring_Power2Round_H : Hints := [(2, [2, 3, 7, 8]), (2000000, [2, 3]), (2000001, [2, 3, 7, 8]), (3000000, [2, 3])]
noncomputable def p_dring_Power2Round_c : Code := (Go.Proofs.Try.f13).body.getD .skip
noncomputable def p_dring_Power2Round_l2_S : Shape where
  h := { tmps := [.any, .any, .sc (.ptr 0 0 false), .sc (.ptr 1 0 false), .any, .any, .any, .agg [.xs (.int .i32) (some 256)], .sc (.int .i64), .any, .any, .any, .any, .any, .any, .any, .any, .any, .any, .any, .any, .any, .any, .any, .any, .any, .any], mem := [.live [.xs (.int .i32) (some 256)] (.own), .live [.xs (.int .i32) (some 256)] (.own)] }
  ks := [.xs, .int, .xs, .xs]
  st := fun x => { tmps := [.one .any, .one .any, .one (.sc (.ptr 0 0 none)), .one (.sc (.ptr 1 0 none)), .one .any, .one .any, .one .any, .one (.agg [.xs (.int .i32) 256 x.1]), .one (.sc (.int .i64 x.2.1)), .one .any, .one .any, .one .any, .one .any, .one .any, .one .any, .one .any, .one .any, .one .any, .one .any, .one .any, .one .any, .one .any, .one .any, .one .any, .one .any, .one .any, .one .any], mem := [.live { segs := [.xs (.int .i32) 256 x.2.2.1], own := .own }, .live { segs := [.xs (.int .i32) 256 x.2.2.2.1], own := .own }] }
noncomputable def p_dring_Power2Round_l2_F (N : Nat) (β : Type) (x : (List Int × Int × List Int × List Int × Unit)) (kn : (List Int × Int × List Int × List Int × Unit) → Option β) (ke : ((List Int × List Int × Unit)) → Option β) : Option β :=
  if (x.2.1 < (256:Int)) then
    if 0 ≤ x.2.1 then (
    if x.2.1 < 256 then (
    if (x.2.1.toNat) < 256 then (
    (g_dring_near ((List.getD x.1 (x.2.1.toNat) 0), (8192:Int), ())).bind fun r2 => (
    if 0 ≤ x.2.1 then (
    if x.2.1 < 256 then (
    if (x.2.1.toNat) < 256 then (
    if 0 ≤ x.2.1 then (
    if x.2.1 < 256 then (
    if (x.2.1.toNat) < 256 then (
    if 0 ≤ x.2.1 then (
    if x.2.1 < 256 then (
    if (x.2.1.toNat) < 256 then (
    kn (x.1, (IntKind.i64.wrap (x.2.1 + (1:Int))), (List.set x.2.2.1 (x.2.1.toNat) (ishr IntKind.i32 (IntKind.i32.wrap ((List.getD x.1 (x.2.1.toNat) 0) - (List.getD (List.set x.2.2.2.1 (x.2.1.toNat) r2) (x.2.1.toNat) 0))) (13:Int))), (List.set x.2.2.2.1 (x.2.1.toNat) r2), ())) else none) else none) else none) else none) else none) else none) else none) else none) else none)) else none) else none) else none
  else
    ke (x.2.2.1, x.2.2.2.1, ())
noncomputable def p_dring_Power2Round_l2_go : Go' ((List Int × List Int × Unit)) := fun y K => K (.exit 0) { tmps := [.one .any, .one .any, .one (.sc (.ptr 0 0 none)), .one (.sc (.ptr 1 0 none)), .one .any, .one .any, .one .any, .one .any, .one .any, .one .any, .one .any, .one .any, .one .any, .one .any, .one .any, .one .any, .one .any, .one .any, .one .any, .one .any, .one .any, .one .any, .one .any, .one .any, .one .any, .one .any, .one .any], mem := [.live { segs := [.xs (.int .i32) 256 y.1], own := .own }, .live { segs := [.xs (.int .i32) 256 y.2.1], own := .own }] }
noncomputable def p_dring_Power2Round_l2_L (N : Nat) : LT := upd (LT.nil) 2 (loopE p_dring_Power2Round_l2_S N (p_dring_Power2Round_l2_F N) p_dring_Power2Round_l2_go)
theorem p_dring_Power2Round_l2_ok (N : Nat) : OkAll p_dring_Power2Round_E p_dring_Power2Round_H N (p_dring_Power2Round_l2_L N) (subs p_dring_Power2Round_c) :=
  addLoop (c := theLoop 2 p_dring_Power2Round_c) (OkAll.nil) (by kernel_rfl) (fun x => by kernel_rfl) (fun β x kn ke => by kernel_rfl)
abbrev p_dring_Power2Round_ks : List Kd := [.xs (.int .i32) 256]
abbrev p_dring_Power2Round_rs : List Kd := [.xs (.int .i32) 256, .xs (.int .i32) 256]
noncomputable def p_dring_Power2Round (N : Nat) (x : List Int × Unit) : Option (List Int × List Int) :=
  (g_dring_Reduce (x.1, ())).bind fun r1 => (
  iter (p_dring_Power2Round_l2_F N) N (r1, (0:Int), (List.replicate 256 0), (List.replicate 256 0), ()) fun y3 => (
  some (y3.1, y3.2.1)))
theorem p_dring_Power2Round_eq (N : Nat) (x : Ds [.xs (.int .i32) 256]) : funL p_dring_Power2Round_E p_dring_Power2Round_H (p_dring_Power2Round_l2_L N) N Go.Proofs.Try.f13 p_dring_Power2Round_c [.xs (.int .i32) 256] [.xs (.int .i32) 256, .xs (.int .i32) 256] x = p_dring_Power2Round N x := by kernel_rfl
theorem p_dring_Power2Round_Eok (he_dring_Reduce : SigOk Go.Proofs.Try.prog 18 ⟨[.xs (.int .i32) 256], [.xs (.int .i32) 256], g_dring_Reduce⟩) (he_dring_near : SigOk Go.Proofs.Try.prog 55 ⟨[.int .i32, .int .i32], [.int .i32], g_dring_near⟩) : p_dring_Power2Round_E.Ok Go.Proofs.Try.prog := AE.of_ok (all_cons ty21_ok (all_cons ty23_ok all_nil)) (all_cons ⟨he_dring_Reduce, enters_dring_Reduce⟩ (all_cons ⟨he_dring_near, enters_dring_near⟩ all_nil))
theorem p_dring_Power2Round_ok (he_dring_Reduce : SigOk Go.Proofs.Try.prog 18 ⟨[.xs (.int .i32) 256], [.xs (.int .i32) 256], g_dring_Reduce⟩) (he_dring_near : SigOk Go.Proofs.Try.prog 55 ⟨[.int .i32, .int .i32], [.int .i32], g_dring_near⟩) {g : Ds [.xs (.int .i32) 256] → Option (Rs [.xs (.int .i32) 256, .xs (.int .i32) 256])} (hg : ∀ x r, g x = some r → ∃ N, p_dring_Power2Round N x = some r) : SigOk Go.Proofs.Try.prog 13 ⟨[.xs (.int .i32) 256], [.xs (.int .i32) 256, .xs (.int .i32) 256], g⟩ :=
  fun_of (E := p_dring_Power2Round_E) (H := p_dring_Power2Round_H) (L := fun N => p_dring_Power2Round_l2_L N) (c := p_dring_Power2Round_c) (ks := p_dring_Power2Round_ks) (rs := p_dring_Power2Round_rs) (F := p_dring_Power2Round) (p_dring_Power2Round_Eok he_dring_Reduce he_dring_near) mix Go.Proofs.Try.func13 (by kernel_rfl) (fun N => p_dring_Power2Round_l2_ok N) p_dring_Power2Round_eq hg

/-! livery/dring.Decompose -/
noncomputable def p_dring_Decompose_E : AE := AE.of [(21, ty21), (23, ty23)] [(56, ⟨[.int .i32], [.int .i32, .int .i32], g_dring_parts⟩)]
noncomputable def p_dring_Decompose_H : Hints := [(2, [2, 3, 6, 7]), (2000000, [2, 3]), (2000001, [2, 3, 6, 7]), (3000000, [2, 3])]
noncomputable def p_dring_Decompose_c : Code := (Go.Proofs.Try.f15).body.getD .skip
noncomputable def p_dring_Decompose_l2_S : Shape where
  h := { tmps := [.any, .any, .sc (.ptr 0 0 false), .sc (.ptr 1 0 false), .any, .any, .agg [.xs (.int .i32) (some 256)], .sc (.int .i64), .any, .any, .any, .any, .any, .any, .any, .any, .any, .any, .any, .any, .any, .any, .any], mem := [.live [.xs (.int .i32) (some 256)] (.own), .live [.xs (.int .i32) (some 256)] (.own)] }
  ks := [.xs, .int, .xs, .xs]
  st := fun x => { tmps := [.one .any, .one .any, .one (.sc (.ptr 0 0 none)), .one (.sc (.ptr 1 0 none)), .one .any, .one .any, .one (.agg [.xs (.int .i32) 256 x.1]), .one (.sc (.int .i64 x.2.1)), .one .any, .one .any, .one .any, .one .any, .one .any, .one .any, .one .any, .one .any, .one .any, .one .any, .one .any, .one .any, .one .any, .one .any, .one .any], mem := [.live { segs := [.xs (.int .i32) 256 x.2.2.1], own := .own }, .live { segs := [.xs (.int .i32) 256 x.2.2.2.1], own := .own }] }
noncomputable def p_dring_Decompose_l2_F (N : Nat) (β : Type) (x : (List Int × Int × List Int × List Int × Unit)) (kn : (List Int × Int × List Int × List Int × Unit) → Option β) (ke : ((List Int × List Int × Unit)) → Option β) : Option β :=
  if (x.2.1 < (256:Int)) then
    if 0 ≤ x.2.1 then (
    if x.2.1 < 256 then (
    if (x.2.1.toNat) < 256 then (
    (g_dring_parts ((List.getD x.1 (x.2.1.toNat) 0), ())).bind fun r1 => (
    if 0 ≤ x.2.1 then (
    if x.2.1 < 256 then (
    if (x.2.1.toNat) < 256 then (
    if 0 ≤ x.2.1 then (
    if x.2.1 < 256 then (
    if (x.2.1.toNat) < 256 then (
    kn (x.1, (IntKind.i64.wrap (x.2.1 + (1:Int))), (List.set x.2.2.1 (x.2.1.toNat) r1.1), (List.set x.2.2.2.1 (x.2.1.toNat) r1.2), ())) else none) else none) else none) else none) else none) else none)) else none) else none) else none
  else
    ke (x.2.2.1, x.2.2.2.1, ())
noncomputable def p_dring_Decompose_l2_go : Go' ((List Int × List Int × Unit)) := fun y K => K (.exit 0) { tmps := [.one .any, .one .any, .one (.sc (.ptr 0 0 none)), .one (.sc (.ptr 1 0 none)), .one .any, .one .any, .one .any, .one .any, .one .any, .one .any, .one .any, .one .any, .one .any, .one .any, .one .any, .one .any, .one .any, .one .any, .one .any, .one .any, .one .any, .one .any, .one .any], mem := [.live { segs := [.xs (.int .i32) 256 y.1], own := .own }, .live { segs := [.xs (.int .i32) 256 y.2.1], own := .own }] }
noncomputable def p_dring_Decompose_l2_L (N : Nat) : LT := upd (LT.nil) 2 (loopE p_dring_Decompose_l2_S N (p_dring_Decompose_l2_F N) p_dring_Decompose_l2_go)
theorem p_dring_Decompose_l2_ok (N : Nat) : OkAll p_dring_Decompose_E p_dring_Decompose_H N (p_dring_Decompose_l2_L N) (subs p_dring_Decompose_c) :=
  addLoop (c := theLoop 2 p_dring_Decompose_c) (OkAll.nil) (by kernel_rfl) (fun x => by kernel_rfl) (fun β x kn ke => by kernel_rfl)
abbrev p_dring_Decompose_ks : List Kd := [.xs (.int .i32) 256]
abbrev p_dring_Decompose_rs : List Kd := [.xs (.int .i32) 256, .xs (.int .i32) 256]
noncomputable def p_dring_Decompose (N : Nat) (x : List Int × Unit) : Option (List Int × List Int) :=
  iter (p_dring_Decompose_l2_F N) N (x.1, (0:Int), (List.replicate 256 0), (List.replicate 256 0), ()) fun y2 => (
  some (y2.1, y2.2.1))
theorem p_dring_Decompose_eq (N : Nat) (x : Ds [.xs (.int .i32) 256]) : funL p_dring_Decompose_E p_dring_Decompose_H (p_dring_Decompose_l2_L N) N Go.Proofs.Try.f15 p_dring_Decompose_c [.xs (.int .i32) 256] [.xs (.int .i32) 256, .xs (.int .i32) 256] x = p_dring_Decompose N x := by kernel_rfl
theorem p_dring_Decompose_Eok (he_dring_parts : SigOk Go.Proofs.Try.prog 56 ⟨[.int .i32], [.int .i32, .int .i32], g_dring_parts⟩) : p_dring_Decompose_E.Ok Go.Proofs.Try.prog := AE.of_ok (all_cons ty21_ok (all_cons ty23_ok all_nil)) (all_cons ⟨he_dring_parts, enters_dring_parts⟩ all_nil)
theorem p_dring_Decompose_ok (he_dring_parts : SigOk Go.Proofs.Try.prog 56 ⟨[.int .i32], [.int .i32, .int .i32], g_dring_parts⟩) {g : Ds [.xs (.int .i32) 256] → Option (Rs [.xs (.int .i32) 256, .xs (.int .i32) 256])} (hg : ∀ x r, g x = some r → ∃ N, p_dring_Decompose N x = some r) : SigOk Go.Proofs.Try.prog 15 ⟨[.xs (.int .i32) 256], [.xs (.int .i32) 256, .xs (.int .i32) 256], g⟩ :=
  fun_of (E := p_dring_Decompose_E) (H := p_dring_Decompose_H) (L := fun N => p_dring_Decompose_l2_L N) (c := p_dring_Decompose_c) (ks := p_dring_Decompose_ks) (rs := p_dring_Decompose_rs) (F := p_dring_Decompose) (p_dring_Decompose_Eok he_dring_parts) mix Go.Proofs.Try.func15 (by kernel_rfl) (fun N => p_dring_Decompose_l2_ok N) p_dring_Decompose_eq hg

/-! livery/liveryref15.mod -/
noncomputable def p_ref15_mod_E : AE := AE.of [] []
noncomputable def p_ref15_mod_H : Hints := [(3000000, [2])]
noncomputable def p_ref15_mod_c : Code := (Go.Proofs.Try.f66).body.getD .skip
abbrev p_ref15_mod_ks : List Kd := [.int .i64]
abbrev p_ref15_mod_rs : List Kd := [.int .i64]
noncomputable def p_ref15_mod (N : Nat) (x : Int × Unit) : Option (Int) :=
  if ((Int.tmod x.1 (8380417:Int)) < (0:Int)) then
    some (IntKind.i64.wrap ((Int.tmod x.1 (8380417:Int)) + (8380417:Int)))
  else
    some (Int.tmod x.1 (8380417:Int))
theorem p_ref15_mod_eq (N : Nat) (x : Ds [.int .i64]) : funL p_ref15_mod_E p_ref15_mod_H (LT.nil) N Go.Proofs.Try.f66 p_ref15_mod_c [.int .i64] [.int .i64] x = p_ref15_mod N x := by kernel_rfl
theorem p_ref15_mod_Eok : p_ref15_mod_E.Ok Go.Proofs.Try.prog := AE.of_ok all_nil all_nil
theorem p_ref15_mod_ok {g : Ds [.int .i64] → Option (Rs [.int .i64])} (hg : ∀ x r, g x = some r → ∃ N, p_ref15_mod N x = some r) : SigOk Go.Proofs.Try.prog 66 ⟨[.int .i64], [.int .i64], g⟩ :=
  fun_of (E := p_ref15_mod_E) (H := p_ref15_mod_H) (L := fun N => LT.nil) (c := p_ref15_mod_c) (ks := p_ref15_mod_ks) (rs := p_ref15_mod_rs) (F := p_ref15_mod) (p_ref15_mod_Eok) mix Go.Proofs.Try.func66 (by kernel_rfl) (fun N => OkAll.nil) p_ref15_mod_eq hg

/-! livery/liveryref15.Reduce -/
noncomputable def p_ref15_Reduce_E : AE := AE.of [(2, ty2), (21, ty21), (23, ty23)] [(66, ⟨[.int .i64], [.int .i64], g_ref15_mod⟩)]
noncomputable def p_ref15_Reduce_H : Hints := [(2, [1, 2, 4]), (2000000, [1, 2]), (2000001, [1, 2, 4]), (3000000, [2])]
noncomputable def p_ref15_Reduce_c : Code := (Go.Proofs.Try.f40).body.getD .skip
noncomputable def p_ref15_Reduce_l2_S : Shape where
  h := { tmps := [.any, .sc (.ptr 0 0 false), .sc (.ptr 1 0 false), .any, .sc (.int .i64), .any, .any, .any, .any, .any, .any, .any, .any, .any, .any, .any, .any], mem := [.live [.xs (.int .i32) (some 256)] (.own), .live [.xs (.int .i32) (some 256)] (.own)] }
  ks := [.int, .xs, .xs]
  st := fun x => { tmps := [.one .any, .one (.sc (.ptr 0 0 none)), .one (.sc (.ptr 1 0 none)), .one .any, .one (.sc (.int .i64 x.1)), .one .any, .one .any, .one .any, .one .any, .one .any, .one .any, .one .any, .one .any, .one .any, .one .any, .one .any, .one .any], mem := [.live { segs := [.xs (.int .i32) 256 x.2.1], own := .own }, .live { segs := [.xs (.int .i32) 256 x.2.2.1], own := .own }] }
noncomputable def p_ref15_Reduce_l2_F (N : Nat) (β : Type) (x : (Int × List Int × List Int × Unit)) (kn : (Int × List Int × List Int × Unit) → Option β) (ke : ((List Int × List Int × Unit)) → Option β) : Option β :=
  if (x.1 < (256:Int)) then
    if 0 ≤ x.1 then (
    if x.1 < 256 then (
    if (x.1.toNat) < 256 then (
    (g_ref15_mod ((IntKind.i64.wrap (List.getD x.2.1 (x.1.toNat) 0)), ())).bind fun r1 => (
    if 0 ≤ x.1 then (
    if x.1 < 256 then (
    if (x.1.toNat) < 256 then (
    kn ((IntKind.i64.wrap (x.1 + (1:Int))), (List.set x.2.1 (x.1.toNat) (IntKind.i32.wrap r1)), x.2.2.1, ())) else none) else none) else none)) else none) else none) else none
  else
    ke (x.2.1, x.2.2.1, ())
noncomputable def p_ref15_Reduce_l2_go : Go' ((List Int × List Int × Unit)) := fun y K => K (.exit 0) { tmps := [.one .any, .one (.sc (.ptr 0 0 none)), .one (.sc (.ptr 1 0 none)), .one .any, .one .any, .one .any, .one .any, .one .any, .one .any, .one .any, .one .any, .one .any, .one .any, .one .any, .one .any, .one .any, .one .any], mem := [.live { segs := [.xs (.int .i32) 256 y.1], own := .own }, .live { segs := [.xs (.int .i32) 256 y.2.1], own := .own }] }
noncomputable def p_ref15_Reduce_l2_L (N : Nat) : LT := upd (LT.nil) 2 (loopE p_ref15_Reduce_l2_S N (p_ref15_Reduce_l2_F N) p_ref15_Reduce_l2_go)
theorem p_ref15_Reduce_l2_ok (N : Nat) : OkAll p_ref15_Reduce_E p_ref15_Reduce_H N (p_ref15_Reduce_l2_L N) (subs p_ref15_Reduce_c) :=
  addLoop (c := theLoop 2 p_ref15_Reduce_c) (OkAll.nil) (by kernel_rfl) (fun x => by kernel_rfl) (fun β x kn ke => by kernel_rfl)
abbrev p_ref15_Reduce_ks : List Kd := [.xs (.int .i32) 256]
abbrev p_ref15_Reduce_rs : List Kd := [.xs (.int .i32) 256]
noncomputable def p_ref15_Reduce (N : Nat) (x : List Int × Unit) : Option (List Int) :=
  iter (p_ref15_Reduce_l2_F N) N ((0:Int), x.1, (List.replicate 256 0), ()) fun y2 => (
  some y2.1)
theorem p_ref15_Reduce_eq (N : Nat) (x : Ds [.xs (.int .i32) 256]) : funL p_ref15_Reduce_E p_ref15_Reduce_H (p_ref15_Reduce_l2_L N) N Go.Proofs.Try.f40 p_ref15_Reduce_c [.xs (.int .i32) 256] [.xs (.int .i32) 256] x = p_ref15_Reduce N x := by kernel_rfl
theorem p_ref15_Reduce_Eok (he_ref15_mod : SigOk Go.Proofs.Try.prog 66 ⟨[.int .i64], [.int .i64], g_ref15_mod⟩) : p_ref15_Reduce_E.Ok Go.Proofs.Try.prog := AE.of_ok (all_cons ty2_ok (all_cons ty21_ok (all_cons ty23_ok all_nil))) (all_cons ⟨he_ref15_mod, enters_ref15_mod⟩ all_nil)
theorem p_ref15_Reduce_ok (he_ref15_mod : SigOk Go.Proofs.Try.prog 66 ⟨[.int .i64], [.int .i64], g_ref15_mod⟩) {g : Ds [.xs (.int .i32) 256] → Option (Rs [.xs (.int .i32) 256])} (hg : ∀ x r, g x = some r → ∃ N, p_ref15_Reduce N x = some r) : SigOk Go.Proofs.Try.prog 40 ⟨[.xs (.int .i32) 256], [.xs (.int .i32) 256], g⟩ :=
  fun_of (E := p_ref15_Reduce_E) (H := p_ref15_Reduce_H) (L := fun N => p_ref15_Reduce_l2_L N) (c := p_ref15_Reduce_c) (ks := p_ref15_Reduce_ks) (rs := p_ref15_Reduce_rs) (F := p_ref15_Reduce) (p_ref15_Reduce_Eok he_ref15_mod) mix Go.Proofs.Try.func40 (by kernel_rfl) (fun N => p_ref15_Reduce_l2_ok N) p_ref15_Reduce_eq hg

/-! livery/liveryref15.Power2Round -/
noncomputable def p_ref15_Power2Round_E : AE := AE.of [(21, ty21), (23, ty23)] [(40, ⟨[.xs (.int .i32) 256], [.xs (.int .i32) 256], g_ref15_Reduce⟩)]
noncomputable def p_ref15_Power2Round_H : Hints := [(4, [1, 2, 3, 4, 5, 9]), (2000000, [2, 3, 4, 5]), (2000001, [1, 2, 3, 4, 5, 9]), (3000000, [2, 3])]
noncomputable def p_ref15_Power2Round_c : Code := (Go.Proofs.Try.f14).body.getD .skip
noncomputable def p_ref15_Power2Round_l4_S : Shape where
  h := { tmps := [.any, .sc (.ptr 0 0 false), .sc (.ptr 1 0 false), .sc (.ptr 2 0 false), .sc (.ptr 3 0 false), .sc (.ptr 4 0 false), .any, .any, .any, .sc (.int .i64), .any, .any, .any, .any, .any, .any, .any, .any, .any, .any, .any, .any, .any, .any, .any, .any, .any, .any, .any, .any, .any, .any, .any, .any, .any, .any, .any, .any, .any, .any], mem := [.live [.xs (.int .i32) (some 256)] (.own), .live [.xs (.int .i32) (some 256)] (.own), .live [.xs (.int .i32) (some 256)] (.own), .live [.xs (.int .i32) (some 256)] (.own), .live [.xs (.int .i32) (some 256)] (.own)] }
  ks := [.int, .xs, .xs, .xs, .xs, .xs]
  st := fun x => { tmps := [.one .any, .one (.sc (.ptr 0 0 none)), .one (.sc (.ptr 1 0 none)), .one (.sc (.ptr 2 0 none)), .one (.sc (.ptr 3 0 none)), .one (.sc (.ptr 4 0 none)), .one .any, .one .any, .one .any, .one (.sc (.int .i64 x.1)), .one .any, .one .any, .one .any, .one .any, .one .any, .one .any, .one .any, .one .any, .one .any, .one .any, .one .any, .one .any, .one .any, .one .any, .one .any, .one .any, .one .any, .one .any, .one .any, .one .any, .one .any, .one .any, .one .any, .one .any, .one .any, .one .any, .one .any, .one .any, .one .any, .one .any], mem := [.live { segs := [.xs (.int .i32) 256 x.2.1], own := .own }, .live { segs := [.xs (.int .i32) 256 x.2.2.1], own := .own }, .live { segs := [.xs (.int .i32) 256 x.2.2.2.1], own := .own }, .live { segs := [.xs (.int .i32) 256 x.2.2.2.2.1], own := .own }, .live { segs := [.xs (.int .i32) 256 x.2.2.2.2.2.1], own := .own }] }
noncomputable def p_ref15_Power2Round_l4_F (N : Nat) (β : Type) (x : (Int × List Int × List Int × List Int × List Int × List Int × Unit)) (kn : (Int × List Int × List Int × List Int × List Int × List Int × Unit) → Option β) (ke : ((List Int × List Int × List Int × List Int × Unit)) → Option β) : Option β :=
  if (x.1 < (256:Int)) then
    if 0 ≤ x.1 then (
    if x.1 < 256 then (
    if (x.1.toNat) < 256 then (
    if 0 ≤ x.1 then (
    if x.1 < 256 then (
    if (x.1.toNat) < 256 then (
    if 0 ≤ x.1 then (
    if x.1 < 256 then (
    if (x.1.toNat) < 256 then (
    if ((List.getD (List.set x.2.2.2.2.2.1 (x.1.toNat) (Int.tmod (List.getD x.2.1 (x.1.toNat) 0) (8192:Int))) (x.1.toNat) 0) > (4096:Int)) then
      if 0 ≤ x.1 then (
      if x.1 < 256 then (
      if (x.1.toNat) < 256 then (
      if 0 ≤ x.1 then (
      if x.1 < 256 then (
      if (x.1.toNat) < 256 then (
      if 0 ≤ x.1 then (
      if x.1 < 256 then (
      if (x.1.toNat) < 256 then (
      if 0 ≤ x.1 then (
      if x.1 < 256 then (
      if (x.1.toNat) < 256 then (
      if 0 ≤ x.1 then (
      if x.1 < 256 then (
      if (x.1.toNat) < 256 then (
      kn ((IntKind.i64.wrap (x.1 + (1:Int))), x.2.1, x.2.2.1, x.2.2.2.1, (List.set x.2.2.2.2.1 (x.1.toNat) (IntKind.i32.wrap (Int.tdiv (IntKind.i32.wrap ((List.getD x.2.1 (x.1.toNat) 0) - (List.getD (List.set (List.set x.2.2.2.2.2.1 (x.1.toNat) (Int.tmod (List.getD x.2.1 (x.1.toNat) 0) (8192:Int))) (x.1.toNat) (IntKind.i32.wrap ((List.getD (List.set x.2.2.2.2.2.1 (x.1.toNat) (Int.tmod (List.getD x.2.1 (x.1.toNat) 0) (8192:Int))) (x.1.toNat) 0) - (8192:Int)))) (x.1.toNat) 0))) (8192:Int)))), (List.set (List.set x.2.2.2.2.2.1 (x.1.toNat) (Int.tmod (List.getD x.2.1 (x.1.toNat) 0) (8192:Int))) (x.1.toNat) (IntKind.i32.wrap ((List.getD (List.set x.2.2.2.2.2.1 (x.1.toNat) (Int.tmod (List.getD x.2.1 (x.1.toNat) 0) (8192:Int))) (x.1.toNat) 0) - (8192:Int)))), ())) else none) else none) else none) else none) else none) else none) else none) else none) else none) else none) else none) else none) else none) else none) else none
    else
      if 0 ≤ x.1 then (
      if x.1 < 256 then (
      if (x.1.toNat) < 256 then (
      if 0 ≤ x.1 then (
      if x.1 < 256 then (
      if (x.1.toNat) < 256 then (
      if 0 ≤ x.1 then (
      if x.1 < 256 then (
      if (x.1.toNat) < 256 then (
      kn ((IntKind.i64.wrap (x.1 + (1:Int))), x.2.1, x.2.2.1, x.2.2.2.1, (List.set x.2.2.2.2.1 (x.1.toNat) (IntKind.i32.wrap (Int.tdiv (IntKind.i32.wrap ((List.getD x.2.1 (x.1.toNat) 0) - (List.getD (List.set x.2.2.2.2.2.1 (x.1.toNat) (Int.tmod (List.getD x.2.1 (x.1.toNat) 0) (8192:Int))) (x.1.toNat) 0))) (8192:Int)))), (List.set x.2.2.2.2.2.1 (x.1.toNat) (Int.tmod (List.getD x.2.1 (x.1.toNat) 0) (8192:Int))), ())) else none) else none) else none) else none) else none) else none) else none) else none) else none) else none) else none) else none) else none) else none) else none) else none) else none) else none
  else
    ke (x.2.2.1, x.2.2.2.1, x.2.2.2.2.1, x.2.2.2.2.2.1, ())
noncomputable def p_ref15_Power2Round_l4_go : Go' ((List Int × List Int × List Int × List Int × Unit)) := fun y K => K (.exit 0) { tmps := [.one .any, .one .any, .one (.sc (.ptr 0 0 none)), .one (.sc (.ptr 1 0 none)), .one (.sc (.ptr 2 0 none)), .one (.sc (.ptr 3 0 none)), .one .any, .one .any, .one .any, .one .any, .one .any, .one .any, .one .any, .one .any, .one .any, .one .any, .one .any, .one .any, .one .any, .one .any, .one .any, .one .any, .one .any, .one .any, .one .any, .one .any, .one .any, .one .any, .one .any, .one .any, .one .any, .one .any, .one .any, .one .any, .one .any, .one .any, .one .any, .one .any, .one .any, .one .any], mem := [.live { segs := [.xs (.int .i32) 256 y.1], own := .own }, .live { segs := [.xs (.int .i32) 256 y.2.1], own := .own }, .live { segs := [.xs (.int .i32) 256 y.2.2.1], own := .own }, .live { segs := [.xs (.int .i32) 256 y.2.2.2.1], own := .own }] }
noncomputable def p_ref15_Power2Round_l4_L (N : Nat) : LT := upd (LT.nil) 4 (loopE p_ref15_Power2Round_l4_S N (p_ref15_Power2Round_l4_F N) p_ref15_Power2Round_l4_go)
theorem p_ref15_Power2Round_l4_ok (N : Nat) : OkAll p_ref15_Power2Round_E p_ref15_Power2Round_H N (p_ref15_Power2Round_l4_L N) (subs p_ref15_Power2Round_c) :=
  addLoop (c := theLoop 4 p_ref15_Power2Round_c) (OkAll.nil) (by kernel_rfl) (fun x => by kernel_rfl) (fun β x kn ke => by kernel_rfl)
abbrev p_ref15_Power2Round_ks : List Kd := [.xs (.int .i32) 256]
abbrev p_ref15_Power2Round_rs : List Kd := [.xs (.int .i32) 256, .xs (.int .i32) 256]
noncomputable def p_ref15_Power2Round (N : Nat) (x : List Int × Unit) : Option (List Int × List Int) :=
  (g_ref15_Reduce (x.1, ())).bind fun r1 => (
  iter (p_ref15_Power2Round_l4_F N) N ((0:Int), r1, (List.replicate 256 0), (List.replicate 256 0), (List.replicate 256 0), (List.replicate 256 0), ()) fun y2 => (
  some (y2.2.2.1, y2.2.2.2.1)))
theorem p_ref15_Power2Round_eq (N : Nat) (x : Ds [.xs (.int .i32) 256]) : funL p_ref15_Power2Round_E p_ref15_Power2Round_H (p_ref15_Power2Round_l4_L N) N Go.Proofs.Try.f14 p_ref15_Power2Round_c [.xs (.int .i32) 256] [.xs (.int .i32) 256, .xs (.int .i32) 256] x = p_ref15_Power2Round N x := by kernel_rfl
theorem p_ref15_Power2Round_Eok (he_ref15_Reduce : SigOk Go.Proofs.Try.prog 40 ⟨[.xs (.int .i32) 256], [.xs (.int .i32) 256], g_ref15_Reduce⟩) : p_ref15_Power2Round_E.Ok Go.Proofs.Try.prog := AE.of_ok (all_cons ty21_ok (all_cons ty23_ok all_nil)) (all_cons ⟨he_ref15_Reduce, enters_ref15_Reduce⟩ all_nil)
theorem p_ref15_Power2Round_ok (he_ref15_Reduce : SigOk Go.Proofs.Try.prog 40 ⟨[.xs (.int .i32) 256], [.xs (.int .i32) 256], g_ref15_Reduce⟩) {g : Ds [.xs (.int .i32) 256] → Option (Rs [.xs (.int .i32) 256, .xs (.int .i32) 256])} (hg : ∀ x r, g x = some r → ∃ N, p_ref15_Power2Round N x = some r) : SigOk Go.Proofs.Try.prog 14 ⟨[.xs (.int .i32) 256], [.xs (.int .i32) 256, .xs (.int .i32) 256], g⟩ :=
  fun_of (E := p_ref15_Power2Round_E) (H := p_ref15_Power2Round_H) (L := fun N => p_ref15_Power2Round_l4_L N) (c := p_ref15_Power2Round_c) (ks := p_ref15_Power2Round_ks) (rs := p_ref15_Power2Round_rs) (F := p_ref15_Power2Round) (p_ref15_Power2Round_Eok he_ref15_Reduce) mix Go.Proofs.Try.func14 (by kernel_rfl) (fun N => p_ref15_Power2Round_l4_ok N) p_ref15_Power2Round_eq hg

/-! livery/liveryref15.Decompose -/
noncomputable def p_ref15_Decompose_E : AE := AE.of [(21, ty21), (23, ty23)] [(40, ⟨[.xs (.int .i32) 256], [.xs (.int .i32) 256], g_ref15_Reduce⟩)]
noncomputable def p_ref15_Decompose_H : Hints := [(4, [1, 2, 3, 4, 5, 9]), (2000000, [2, 3, 4, 5]), (2000001, [1, 2, 3, 4, 5, 9]), (3000000, [2, 3])]
noncomputable def p_ref15_Decompose_c : Code := (Go.Proofs.Try.f16).body.getD .skip
noncomputable def p_ref15_Decompose_l4_S : Shape where
  h := { tmps := [.any, .sc (.ptr 0 0 false), .sc (.ptr 1 0 false), .sc (.ptr 2 0 false), .sc (.ptr 3 0 false), .sc (.ptr 4 0 false), .any, .any, .any, .sc (.int .i64), .any, .any, .any, .any, .any, .any, .any, .any, .any, .any, .any, .any, .any, .any, .any, .any, .any, .any, .any, .any, .any, .any, .any, .any, .any, .any, .any, .any, .any, .any, .any, .any, .any, .any, .any, .any, .any, .any, .any, .any, .any, .any, .any], mem := [.live [.xs (.int .i32) (some 256)] (.own), .live [.xs (.int .i32) (some 256)] (.own), .live [.xs (.int .i32) (some 256)] (.own), .live [.xs (.int .i32) (some 256)] (.own), .live [.xs (.int .i32) (some 256)] (.own)] }
  ks := [.int, .xs, .xs, .xs, .xs, .xs]
  st := fun x => { tmps := [.one .any, .one (.sc (.ptr 0 0 none)), .one (.sc (.ptr 1 0 none)), .one (.sc (.ptr 2 0 none)), .one (.sc (.ptr 3 0 none)), .one (.sc (.ptr 4 0 none)), .one .any, .one .any, .one .any, .one (.sc (.int .i64 x.1)), .one .any, .one .any, .one .any, .one .any, .one .any, .one .any, .one .any, .one .any, .one .any, .one .any, .one .any, .one .any, .one .any, .one .any, .one .any, .one .any, .one .any, .one .any, .one .any, .one .any, .one .any, .one .any, .one .any, .one .any, .one .any, .one .any, .one .any, .one .any, .one .any, .one .any, .one .any, .one .any, .one .any, .one .any, .one .any, .one .any, .one .any, .one .any, .one .any, .one .any, .one .any, .one .any, .one .any], mem := [.live { segs := [.xs (.int .i32) 256 x.2.1], own := .own }, .live { segs := [.xs (.int .i32) 256 x.2.2.1], own := .own }, .live { segs := [.xs (.int .i32) 256 x.2.2.2.1], own := .own }, .live { segs := [.xs (.int .i32) 256 x.2.2.2.2.1], own := .own }, .live { segs := [.xs (.int .i32) 256 x.2.2.2.2.2.1], own := .own }] }
noncomputable def p_ref15_Decompose_l4_F (N : Nat) (β : Type) (x : (Int × List Int × List Int × List Int × List Int × List Int × Unit)) (kn : (Int × List Int × List Int × List Int × List Int × List Int × Unit) → Option β) (ke : ((List Int × List Int × List Int × List Int × Unit)) → Option β) : Option β :=
  if (x.1 < (256:Int)) then
    if 0 ≤ x.1 then (
    if x.1 < 256 then (
    if (x.1.toNat) < 256 then (
    if 0 ≤ x.1 then (
    if x.1 < 256 then (
    if (x.1.toNat) < 256 then (
    if 0 ≤ x.1 then (
    if x.1 < 256 then (
    if (x.1.toNat) < 256 then (
    if ((List.getD (List.set x.2.2.2.2.2.1 (x.1.toNat) (Int.tmod (List.getD x.2.1 (x.1.toNat) 0) (523776:Int))) (x.1.toNat) 0) > (261888:Int)) then
      if 0 ≤ x.1 then (
      if x.1 < 256 then (
      if (x.1.toNat) < 256 then (
      if 0 ≤ x.1 then (
      if x.1 < 256 then (
      if (x.1.toNat) < 256 then (
      if 0 ≤ x.1 then (
      if x.1 < 256 then (
      if (x.1.toNat) < 256 then (
      if 0 ≤ x.1 then (
      if x.1 < 256 then (
      if (x.1.toNat) < 256 then (
      if ((IntKind.i32.wrap ((List.getD x.2.1 (x.1.toNat) 0) - (List.getD (List.set (List.set x.2.2.2.2.2.1 (x.1.toNat) (Int.tmod (List.getD x.2.1 (x.1.toNat) 0) (523776:Int))) (x.1.toNat) (IntKind.i32.wrap ((List.getD (List.set x.2.2.2.2.2.1 (x.1.toNat) (Int.tmod (List.getD x.2.1 (x.1.toNat) 0) (523776:Int))) (x.1.toNat) 0) - (523776:Int)))) (x.1.toNat) 0))) = (8380416:Int)) then
        if 0 ≤ x.1 then (
        if x.1 < 256 then (
        if (x.1.toNat) < 256 then (
        if 0 ≤ x.1 then (
        if x.1 < 256 then (
        if (x.1.toNat) < 256 then (
        kn ((IntKind.i64.wrap (x.1 + (1:Int))), x.2.1, x.2.2.1, x.2.2.2.1, x.2.2.2.2.1, (List.set (List.set (List.set x.2.2.2.2.2.1 (x.1.toNat) (Int.tmod (List.getD x.2.1 (x.1.toNat) 0) (523776:Int))) (x.1.toNat) (IntKind.i32.wrap ((List.getD (List.set x.2.2.2.2.2.1 (x.1.toNat) (Int.tmod (List.getD x.2.1 (x.1.toNat) 0) (523776:Int))) (x.1.toNat) 0) - (523776:Int)))) (x.1.toNat) (IntKind.i32.wrap ((List.getD (List.set (List.set x.2.2.2.2.2.1 (x.1.toNat) (Int.tmod (List.getD x.2.1 (x.1.toNat) 0) (523776:Int))) (x.1.toNat) (IntKind.i32.wrap ((List.getD (List.set x.2.2.2.2.2.1 (x.1.toNat) (Int.tmod (List.getD x.2.1 (x.1.toNat) 0) (523776:Int))) (x.1.toNat) 0) - (523776:Int)))) (x.1.toNat) 0) - (1:Int)))), ())) else none) else none) else none) else none) else none) else none
      else
        if 0 ≤ x.1 then (
        if x.1 < 256 then (
        if (x.1.toNat) < 256 then (
        if 0 ≤ x.1 then (
        if x.1 < 256 then (
        if (x.1.toNat) < 256 then (
        if 0 ≤ x.1 then (
        if x.1 < 256 then (
        if (x.1.toNat) < 256 then (
        kn ((IntKind.i64.wrap (x.1 + (1:Int))), x.2.1, x.2.2.1, x.2.2.2.1, (List.set x.2.2.2.2.1 (x.1.toNat) (IntKind.i32.wrap (Int.tdiv (IntKind.i32.wrap ((List.getD x.2.1 (x.1.toNat) 0) - (List.getD (List.set (List.set x.2.2.2.2.2.1 (x.1.toNat) (Int.tmod (List.getD x.2.1 (x.1.toNat) 0) (523776:Int))) (x.1.toNat) (IntKind.i32.wrap ((List.getD (List.set x.2.2.2.2.2.1 (x.1.toNat) (Int.tmod (List.getD x.2.1 (x.1.toNat) 0) (523776:Int))) (x.1.toNat) 0) - (523776:Int)))) (x.1.toNat) 0))) (523776:Int)))), (List.set (List.set x.2.2.2.2.2.1 (x.1.toNat) (Int.tmod (List.getD x.2.1 (x.1.toNat) 0) (523776:Int))) (x.1.toNat) (IntKind.i32.wrap ((List.getD (List.set x.2.2.2.2.2.1 (x.1.toNat) (Int.tmod (List.getD x.2.1 (x.1.toNat) 0) (523776:Int))) (x.1.toNat) 0) - (523776:Int)))), ())) else none) else none) else none) else none) else none) else none) else none) else none) else none) else none) else none) else none) else none) else none) else none) else none) else none) else none) else none) else none) else none
    else
      if 0 ≤ x.1 then (
      if x.1 < 256 then (
      if (x.1.toNat) < 256 then (
      if 0 ≤ x.1 then (
      if x.1 < 256 then (
      if (x.1.toNat) < 256 then (
      if ((IntKind.i32.wrap ((List.getD x.2.1 (x.1.toNat) 0) - (List.getD (List.set x.2.2.2.2.2.1 (x.1.toNat) (Int.tmod (List.getD x.2.1 (x.1.toNat) 0) (523776:Int))) (x.1.toNat) 0))) = (8380416:Int)) then
        if 0 ≤ x.1 then (
        if x.1 < 256 then (
        if (x.1.toNat) < 256 then (
        if 0 ≤ x.1 then (
        if x.1 < 256 then (
        if (x.1.toNat) < 256 then (
        kn ((IntKind.i64.wrap (x.1 + (1:Int))), x.2.1, x.2.2.1, x.2.2.2.1, x.2.2.2.2.1, (List.set (List.set x.2.2.2.2.2.1 (x.1.toNat) (Int.tmod (List.getD x.2.1 (x.1.toNat) 0) (523776:Int))) (x.1.toNat) (IntKind.i32.wrap ((List.getD (List.set x.2.2.2.2.2.1 (x.1.toNat) (Int.tmod (List.getD x.2.1 (x.1.toNat) 0) (523776:Int))) (x.1.toNat) 0) - (1:Int)))), ())) else none) else none) else none) else none) else none) else none
      else
        if 0 ≤ x.1 then (
        if x.1 < 256 then (
        if (x.1.toNat) < 256 then (
        if 0 ≤ x.1 then (
        if x.1 < 256 then (
        if (x.1.toNat) < 256 then (
        if 0 ≤ x.1 then (
        if x.1 < 256 then (
        if (x.1.toNat) < 256 then (
        kn ((IntKind.i64.wrap (x.1 + (1:Int))), x.2.1, x.2.2.1, x.2.2.2.1, (List.set x.2.2.2.2.1 (x.1.toNat) (IntKind.i32.wrap (Int.tdiv (IntKind.i32.wrap ((List.getD x.2.1 (x.1.toNat) 0) - (List.getD (List.set x.2.2.2.2.2.1 (x.1.toNat) (Int.tmod (List.getD x.2.1 (x.1.toNat) 0) (523776:Int))) (x.1.toNat) 0))) (523776:Int)))), (List.set x.2.2.2.2.2.1 (x.1.toNat) (Int.tmod (List.getD x.2.1 (x.1.toNat) 0) (523776:Int))), ())) else none) else none) else none) else none) else none) else none) else none) else none) else none) else none) else none) else none) else none) else none) else none) else none) else none) else none) else none) else none) else none) else none) else none) else none
  else
    ke (x.2.2.1, x.2.2.2.1, x.2.2.2.2.1, x.2.2.2.2.2.1, ())
noncomputable def p_ref15_Decompose_l4_go : Go' ((List Int × List Int × List Int × List Int × Unit)) := fun y K => K (.exit 0) { tmps := [.one .any, .one .any, .one (.sc (.ptr 0 0 none)), .one (.sc (.ptr 1 0 none)), .one (.sc (.ptr 2 0 none)), .one (.sc (.ptr 3 0 none)), .one .any, .one .any, .one .any, .one .any, .one .any, .one .any, .one .any, .one .any, .one .any, .one .any, .one .any, .one .any, .one .any, .one .any, .one .any, .one .any, .one .any, .one .any, .one .any, .one .any, .one .any, .one .any, .one .any, .one .any, .one .any, .one .any, .one .any, .one .any, .one .any, .one .any, .one .any, .one .any, .one .any, .one .any, .one .any, .one .any, .one .any, .one .any, .one .any, .one .any, .one .any, .one .any, .one .any, .one .any, .one .any, .one .any, .one .any], mem := [.live { segs := [.xs (.int .i32) 256 y.1], own := .own }, .live { segs := [.xs (.int .i32) 256 y.2.1], own := .own }, .live { segs := [.xs (.int .i32) 256 y.2.2.1], own := .own }, .live { segs := [.xs (.int .i32) 256 y.2.2.2.1], own := .own }] }
noncomputable def p_ref15_Decompose_l4_L (N : Nat) : LT := upd (LT.nil) 4 (loopE p_ref15_Decompose_l4_S N (p_ref15_Decompose_l4_F N) p_ref15_Decompose_l4_go)
theorem p_ref15_Decompose_l4_ok (N : Nat) : OkAll p_ref15_Decompose_E p_ref15_Decompose_H N (p_ref15_Decompose_l4_L N) (subs p_ref15_Decompose_c) :=
  addLoop (c := theLoop 4 p_ref15_Decompose_c) (OkAll.nil) (by kernel_rfl) (fun x => by kernel_rfl) (fun β x kn ke => by kernel_rfl)
abbrev p_ref15_Decompose_ks : List Kd := [.xs (.int .i32) 256]
abbrev p_ref15_Decompose_rs : List Kd := [.xs (.int .i32) 256, .xs (.int .i32) 256]
noncomputable def p_ref15_Decompose (N : Nat) (x : List Int × Unit) : Option (List Int × List Int) :=
  (g_ref15_Reduce (x.1, ())).bind fun r1 => (
  iter (p_ref15_Decompose_l4_F N) N ((0:Int), r1, (List.replicate 256 0), (List.replicate 256 0), (List.replicate 256 0), (List.replicate 256 0), ()) fun y2 => (
  some (y2.2.2.1, y2.2.2.2.1)))
theorem p_ref15_Decompose_eq (N : Nat) (x : Ds [.xs (.int .i32) 256]) : funL p_ref15_Decompose_E p_ref15_Decompose_H (p_ref15_Decompose_l4_L N) N Go.Proofs.Try.f16 p_ref15_Decompose_c [.xs (.int .i32) 256] [.xs (.int .i32) 256, .xs (.int .i32) 256] x = p_ref15_Decompose N x := by kernel_rfl
theorem p_ref15_Decompose_Eok (he_ref15_Reduce : SigOk Go.Proofs.Try.prog 40 ⟨[.xs (.int .i32) 256], [.xs (.int .i32) 256], g_ref15_Reduce⟩) : p_ref15_Decompose_E.Ok Go.Proofs.Try.prog := AE.of_ok (all_cons ty21_ok (all_cons ty23_ok all_nil)) (all_cons ⟨he_ref15_Reduce, enters_ref15_Reduce⟩ all_nil)
theorem p_ref15_Decompose_ok (he_ref15_Reduce : SigOk Go.Proofs.Try.prog 40 ⟨[.xs (.int .i32) 256], [.xs (.int .i32) 256], g_ref15_Reduce⟩) {g : Ds [.xs (.int .i32) 256] → Option (Rs [.xs (.int .i32) 256, .xs (.int .i32) 256])} (hg : ∀ x r, g x = some r → ∃ N, p_ref15_Decompose N x = some r) : SigOk Go.Proofs.Try.prog 16 ⟨[.xs (.int .i32) 256], [.xs (.int .i32) 256, .xs (.int .i32) 256], g⟩ :=
  fun_of (E := p_ref15_Decompose_E) (H := p_ref15_Decompose_H) (L := fun N => p_ref15_Decompose_l4_L N) (c := p_ref15_Decompose_c) (ks := p_ref15_Decompose_ks) (rs := p_ref15_Decompose_rs) (F := p_ref15_Decompose) (p_ref15_Decompose_Eok he_ref15_Reduce) mix Go.Proofs.Try.func16 (by kernel_rfl) (fun N => p_ref15_Decompose_l4_ok N) p_ref15_Decompose_eq hg

/-! livery/liverylaw15.live -/
noncomputable def p_law15_live_E : AE := AE.of [(21, ty21), (23, ty23)] [(15, ⟨[.xs (.int .i32) 256], [.xs (.int .i32) 256, .xs (.int .i32) 256], g_dring_Decompose⟩), (13, ⟨[.xs (.int .i32) 256], [.xs (.int .i32) 256, .xs (.int .i32) 256], g_dring_Power2Round⟩)]
noncomputable def p_law15_live_H : Hints := [(3000000, [0])]
noncomputable def p_law15_live_c : Code := (Go.Proofs.Try.f17).body.getD .skip
abbrev p_law15_live_ks : List Kd := []
abbrev p_law15_live_rs : List Kd := [.bool]
noncomputable def p_law15_live (N : Nat) (x : Unit) : Option (Bool) :=
  (g_dring_Decompose ((List.set (List.replicate 256 0) 0 (8380416:Int)), ())).bind fun r1 => (
  (g_dring_Power2Round ((List.set (List.replicate 256 0) 0 (4097:Int)), ())).bind fun r2 => (
  if ((List.getD r1.1 0 0) = (0:Int)) then
    if ((List.getD r1.2 0 0) = (-1:Int)) then
      if ((List.getD r2.1 0 0) = (1:Int)) then
        some (decide ((List.getD r2.2 0 0) = (-4095:Int)))
      else
        some false
    else
      some false
  else
    some false))
theorem p_law15_live_eq (N : Nat) (x : Ds []) : funL p_law15_live_E p_law15_live_H (LT.nil) N Go.Proofs.Try.f17 p_law15_live_c [] [.bool] x = p_law15_live N x := by kernel_rfl
theorem p_law15_live_Eok (he_dring_Decompose : SigOk Go.Proofs.Try.prog 15 ⟨[.xs (.int .i32) 256], [.xs (.int .i32) 256, .xs (.int .i32) 256], g_dring_Decompose⟩) (he_dring_Power2Round : SigOk Go.Proofs.Try.prog 13 ⟨[.xs (.int .i32) 256], [.xs (.int .i32) 256, .xs (.int .i32) 256], g_dring_Power2Round⟩) : p_law15_live_E.Ok Go.Proofs.Try.prog := AE.of_ok (all_cons ty21_ok (all_cons ty23_ok all_nil)) (all_cons ⟨he_dring_Decompose, enters_dring_Decompose⟩ (all_cons ⟨he_dring_Power2Round, enters_dring_Power2Round⟩ all_nil))
theorem p_law15_live_ok (he_dring_Decompose : SigOk Go.Proofs.Try.prog 15 ⟨[.xs (.int .i32) 256], [.xs (.int .i32) 256, .xs (.int .i32) 256], g_dring_Decompose⟩) (he_dring_Power2Round : SigOk Go.Proofs.Try.prog 13 ⟨[.xs (.int .i32) 256], [.xs (.int .i32) 256, .xs (.int .i32) 256], g_dring_Power2Round⟩) {g : Ds [] → Option (Rs [.bool])} (hg : ∀ x r, g x = some r → ∃ N, p_law15_live N x = some r) : SigOk Go.Proofs.Try.prog 17 ⟨[], [.bool], g⟩ :=
  fun_of (E := p_law15_live_E) (H := p_law15_live_H) (L := fun N => LT.nil) (c := p_law15_live_c) (ks := p_law15_live_ks) (rs := p_law15_live_rs) (F := p_law15_live) (p_law15_live_Eok he_dring_Decompose he_dring_Power2Round) mix Go.Proofs.Try.func17 (by kernel_rfl) (fun N => OkAll.nil) p_law15_live_eq hg

/-! livery/liverylaw15.DringRounds -/
noncomputable def p_law15_DringRounds_E : AE := AE.of [(21, ty21), (23, ty23)] [(13, ⟨[.xs (.int .i32) 256], [.xs (.int .i32) 256, .xs (.int .i32) 256], g_dring_Power2Round⟩), (14, ⟨[.xs (.int .i32) 256], [.xs (.int .i32) 256, .xs (.int .i32) 256], g_ref15_Power2Round⟩), (15, ⟨[.xs (.int .i32) 256], [.xs (.int .i32) 256, .xs (.int .i32) 256], g_dring_Decompose⟩), (16, ⟨[.xs (.int .i32) 256], [.xs (.int .i32) 256, .xs (.int .i32) 256], g_ref15_Decompose⟩), (17, ⟨[], [.bool], g_law15_live⟩)]
noncomputable def p_law15_DringRounds_H : Hints := [(3000000, [2])]
noncomputable def p_law15_DringRounds_c : Code := (Go.Proofs.Try.f3).body.getD .skip
abbrev p_law15_DringRounds_ks : List Kd := [.xs (.int .i32) 256]
abbrev p_law15_DringRounds_rs : List Kd := [.bool]
noncomputable def p_law15_DringRounds (N : Nat) (x : List Int × Unit) : Option (Bool) :=
  (g_dring_Power2Round (x.1, ())).bind fun r1 => (
  (g_ref15_Power2Round (x.1, ())).bind fun r2 => (
  (g_dring_Decompose (x.1, ())).bind fun r3 => (
  (g_ref15_Decompose (x.1, ())).bind fun r4 => (
  (g_law15_live (())).bind fun r5 => (
  if (r5 = true) then
    if (r1.1 = r2.1) then
      if (r1.2 = r2.2) then
        if (r3.1 = r4.1) then
          some (decide (r3.2 = r4.2))
        else
          some false
      else
        some false
    else
      some false
  else
    some false)))))
theorem p_law15_DringRounds_eq (N : Nat) (x : Ds [.xs (.int .i32) 256]) : funL p_law15_DringRounds_E p_law15_DringRounds_H (LT.nil) N Go.Proofs.Try.f3 p_law15_DringRounds_c [.xs (.int .i32) 256] [.bool] x = p_law15_DringRounds N x := by kernel_rfl
theorem p_law15_DringRounds_Eok (he_dring_Power2Round : SigOk Go.Proofs.Try.prog 13 ⟨[.xs (.int .i32) 256], [.xs (.int .i32) 256, .xs (.int .i32) 256], g_dring_Power2Round⟩) (he_ref15_Power2Round : SigOk Go.Proofs.Try.prog 14 ⟨[.xs (.int .i32) 256], [.xs (.int .i32) 256, .xs (.int .i32) 256], g_ref15_Power2Round⟩) (he_dring_Decompose : SigOk Go.Proofs.Try.prog 15 ⟨[.xs (.int .i32) 256], [.xs (.int .i32) 256, .xs (.int .i32) 256], g_dring_Decompose⟩) (he_ref15_Decompose : SigOk Go.Proofs.Try.prog 16 ⟨[.xs (.int .i32) 256], [.xs (.int .i32) 256, .xs (.int .i32) 256], g_ref15_Decompose⟩) (he_law15_live : SigOk Go.Proofs.Try.prog 17 ⟨[], [.bool], g_law15_live⟩) : p_law15_DringRounds_E.Ok Go.Proofs.Try.prog := AE.of_ok (all_cons ty21_ok (all_cons ty23_ok all_nil)) (all_cons ⟨he_dring_Power2Round, enters_dring_Power2Round⟩ (all_cons ⟨he_ref15_Power2Round, enters_ref15_Power2Round⟩ (all_cons ⟨he_dring_Decompose, enters_dring_Decompose⟩ (all_cons ⟨he_ref15_Decompose, enters_ref15_Decompose⟩ (all_cons ⟨he_law15_live, enters_law15_live⟩ all_nil)))))
theorem p_law15_DringRounds_ok (he_dring_Power2Round : SigOk Go.Proofs.Try.prog 13 ⟨[.xs (.int .i32) 256], [.xs (.int .i32) 256, .xs (.int .i32) 256], g_dring_Power2Round⟩) (he_ref15_Power2Round : SigOk Go.Proofs.Try.prog 14 ⟨[.xs (.int .i32) 256], [.xs (.int .i32) 256, .xs (.int .i32) 256], g_ref15_Power2Round⟩) (he_dring_Decompose : SigOk Go.Proofs.Try.prog 15 ⟨[.xs (.int .i32) 256], [.xs (.int .i32) 256, .xs (.int .i32) 256], g_dring_Decompose⟩) (he_ref15_Decompose : SigOk Go.Proofs.Try.prog 16 ⟨[.xs (.int .i32) 256], [.xs (.int .i32) 256, .xs (.int .i32) 256], g_ref15_Decompose⟩) (he_law15_live : SigOk Go.Proofs.Try.prog 17 ⟨[], [.bool], g_law15_live⟩) {g : Ds [.xs (.int .i32) 256] → Option (Rs [.bool])} (hg : ∀ x r, g x = some r → ∃ N, p_law15_DringRounds N x = some r) : SigOk Go.Proofs.Try.prog 3 ⟨[.xs (.int .i32) 256], [.bool], g⟩ :=
  fun_of (E := p_law15_DringRounds_E) (H := p_law15_DringRounds_H) (L := fun N => LT.nil) (c := p_law15_DringRounds_c) (ks := p_law15_DringRounds_ks) (rs := p_law15_DringRounds_rs) (F := p_law15_DringRounds) (p_law15_DringRounds_Eok he_dring_Power2Round he_ref15_Power2Round he_dring_Decompose he_ref15_Decompose he_law15_live) mix Go.Proofs.Try.func3 (by kernel_rfl) (fun N => OkAll.nil) p_law15_DringRounds_eq hg
end Go.Ax.TryP
/-! ### The printed functions compute what is specified (modulo 8380417) -/
namespace Go.Ax.TryP

theorem wf_d1 {a : List Int} : wfAll [.xs (.int .i32) 256] (a, ()) ↔ i32s 256 a := by simp [wfAll, wf_i32s]
theorem i32_at {a : List Int} (h : i32s 256 a) (i : Nat) : -2147483648 ≤ a.getD i 0 ∧ a.getD i 0 ≤ 2147483647 := rows.at h (by omega) i
theorem dpoly_len (h : Nat → Int) : (dpoly h).length = 256 := by simp [dpoly]
theorem dpoly_getD {h : Nat → Int} {i : Nat} (hi : i < 256) : (dpoly h).getD i 0 = h i := map_range_getD hi
theorem fDRed_ok (a : List Int) : rows 0 8380416 256 (fDRed a) := rows.range fun i _ => by omega
theorem fDRed_at (a : List Int) (i : Nat) : 0 ≤ (fDRed a).getD i 0 ∧ (fDRed a).getD i 0 ≤ 8380416 := rows.at (fDRed_ok a) (by omega) i
theorem fDRed_i32 (a : List Int) : i32s 256 (fDRed a) := (fDRed_ok a).mono (by omega) (by omega)
theorem fDRed_getD {a : List Int} {i : Nat} (hi : i < 256) : (fDRed a).getD i 0 = a.getD i 0 % 8380417 := dpoly_getD hi

theorem q_dring_below : ∀ x r, g_dring_below x = some r → ∃ N, p_dring_below N x = some r := by
  refine Spec_of (ks := p_dring_below_ks) (rs := p_dring_below_rs) fun x hw _ => ⟨0, ?_⟩
  obtain ⟨(z : Int), u⟩ := x
  have h := tmod_fix (a := z) (b := 8380417) (by omega)
  have h1 := Int.emod_nonneg z (show (8380417 : Int) ≠ 0 by omega)
  have h2 := Int.emod_lt_of_pos z (show (0 : Int) < 8380417 by omega)
  unfold p_dring_below
  simp only at h ⊢
  split
  · rename_i hlt
    rw [if_pos hlt] at h
    rw [h, wrap_i64 (by omega) (by omega), wrap_i32 (by omega) (by omega)]
  · rename_i hlt
    rw [if_neg hlt] at h
    rw [h, wrap_i32 (by omega) (by omega)]
theorem q_ref15_mod : ∀ x r, g_ref15_mod x = some r → ∃ N, p_ref15_mod N x = some r := by
  refine Spec_of (ks := p_ref15_mod_ks) (rs := p_ref15_mod_rs) fun x hw _ => ⟨0, ?_⟩
  obtain ⟨(z : Int), u⟩ := x
  have h := tmod_fix (a := z) (b := 8380417) (by omega)
  have h1 := Int.emod_nonneg z (show (8380417 : Int) ≠ 0 by omega)
  have h2 := Int.emod_lt_of_pos z (show (0 : Int) < 8380417 by omega)
  unfold p_ref15_mod
  simp only at h ⊢
  split
  · rename_i hlt
    rw [if_pos hlt] at h
    rw [h, wrap_i64 (by omega) (by omega)]
  · rename_i hlt
    rw [if_neg hlt] at h
    rw [h]

theorem at_below {z : Int} (h1 : -9223372036854775808 ≤ z) (h2 : z ≤ 9223372036854775807) : g_dring_below (z, ()) = some (z % 8380417) :=
  Spec_at (ks := p_dring_below_ks) (rs := p_dring_below_rs) (x := (z, ())) ⟨okInt_i64.2 ⟨h1, h2⟩, trivial⟩ trivial
theorem at_mod {z : Int} (h1 : -9223372036854775808 ≤ z) (h2 : z ≤ 9223372036854775807) : g_ref15_mod (z, ()) = some (z % 8380417) :=
  Spec_at (ks := p_ref15_mod_ks) (rs := p_ref15_mod_rs) (x := (z, ())) ⟨okInt_i64.2 ⟨h1, h2⟩, trivial⟩ trivial

theorem q_dring_Reduce_1 : ∀ x r, g_dring_Reduce_1 x = some r → ∃ N, p_dring_Reduce_1 N x = some r := by
  refine Spec_of (ks := p_dring_Reduce_1_ks) (rs := p_dring_Reduce_1_rs) fun x hw _ => ⟨0, ?_⟩
  obtain ⟨(z : Int), u⟩ := x
  have hz := okInt_i32.1 hw.1
  simp only at hz
  unfold p_dring_Reduce_1
  simp only
  rw [wrap_i64 (by omega) (by omega), at_below (by omega) (by omega)]
  rfl
theorem at_Reduce_1 {z : Int} (h1 : -2147483648 ≤ z) (h2 : z ≤ 2147483647) : g_dring_Reduce_1 (z, ()) = some (z % 8380417) :=
  Spec_at (ks := p_dring_Reduce_1_ks) (rs := p_dring_Reduce_1_rs) (x := (z, ())) ⟨okInt_i32.2 ⟨h1, h2⟩, trivial⟩ trivial

theorem q_dring_each__dring_Reduce_1 : ∀ x r, g_dring_each__dring_Reduce_1 x = some r → ∃ N, p_dring_each__dring_Reduce_1 N x = some r := by
  refine Spec_of (ks := p_dring_each__dring_Reduce_1_ks) (rs := p_dring_each__dring_Reduce_1_rs) fun x hw _ => ⟨257, ?_⟩
  obtain ⟨(a : List Int), u, u'⟩ := x
  have ha : i32s 256 a := wf_i32s.1 hw.1
  have hl := ha.1
  unfold p_dring_each__dring_Reduce_1
  refine (iter_run (s := fun i => (a, (i : Int), part (fun i => a.getD i 0 % 8380417) i a, List.replicate 256 0, ())) (y := (fDRed a, List.replicate 256 0, ())) 256 ?_ ?_ 257 (by omega)).trans ?_
  · intro i hi kn
    have h0 := i32_at ha i
    unfold p_dring_each__dring_Reduce_1_l2_F
    simp (disch := omega) only [if_pos, wrap_i64, Int.toNat_natCast, at_Reduce_1, Option.bind_some]
    rw [part_set' (by omega) rfl, Int.natCast_add]
    rfl
  · intro kn
    unfold p_dring_each__dring_Reduce_1_l2_F
    simp (disch := omega) only [if_neg]
    rw [part_all hl]
    rfl
  · rfl
theorem q_dring_Reduce : ∀ x r, g_dring_Reduce x = some r → ∃ N, p_dring_Reduce N x = some r := by
  refine Spec_of (ks := p_dring_Reduce_ks) (rs := p_dring_Reduce_rs) fun x hw _ => ⟨0, ?_⟩
  obtain ⟨(a : List Int), u⟩ := x
  unfold p_dring_Reduce
  have h : g_dring_each__dring_Reduce_1 (a, (), ()) = some (fDRed a) := Spec_at (ks := p_dring_each__dring_Reduce_1_ks) (rs := p_dring_each__dring_Reduce_1_rs) (x := (a, (), ())) ⟨hw.1, trivial, trivial⟩ trivial
  simp only
  rw [h]
  rfl
theorem at_Reduce {a : List Int} (h : i32s 256 a) : g_dring_Reduce (a, ()) = some (fDRed a) :=
  Spec_at (ks := p_dring_Reduce_ks) (rs := p_dring_Reduce_rs) (x := (a, ())) (wf_d1.2 h) trivial

theorem q_ref15_Reduce : ∀ x r, g_ref15_Reduce x = some r → ∃ N, p_ref15_Reduce N x = some r := by
  refine Spec_of (ks := p_ref15_Reduce_ks) (rs := p_ref15_Reduce_rs) fun x hw _ => ⟨257, ?_⟩
  obtain ⟨(a : List Int), u⟩ := x
  have ha := wf_d1.1 hw
  have hl := ha.1
  unfold p_ref15_Reduce
  refine (iter_run (s := fun i => ((i : Int), part (fun i => a.getD i 0 % 8380417) i a, List.replicate 256 0, ())) (y := (fDRed a, List.replicate 256 0, ())) 256 ?_ ?_ 257 (by omega)).trans ?_
  · intro i hi kn
    have h0 := i32_at ha i
    have hm : ∀ z : Int, 0 ≤ z % 8380417 ∧ z % 8380417 < 8380417 := fun z => by omega
    have hm0 := hm (a.getD i 0)
    unfold p_ref15_Reduce_l2_F
    simp (disch := omega) only [if_pos, wrap_i64, Int.toNat_natCast, part_getD_self, at_mod, Option.bind_some, wrap_i32]
    rw [part_set' (by omega) rfl, Int.natCast_add]
    rfl
  · intro kn
    unfold p_ref15_Reduce_l2_F
    simp (disch := omega) only [if_neg]
    rw [part_all hl]
    rfl
  · rfl
theorem at_rReduce {a : List Int} (h : i32s 256 a) : g_ref15_Reduce (a, ()) = some (fDRed a) :=
  Spec_at (ks := p_ref15_Reduce_ks) (rs := p_ref15_Reduce_rs) (x := (a, ())) (wf_d1.2 h) trivial

theorem q_dring_near : ∀ x r, g_dring_near x = some r → ∃ N, p_dring_near N x = some r := by
  refine Spec_of (ks := p_dring_near_ks) (rs := p_dring_near_rs) fun x hw hq => ⟨0, ?_⟩
  obtain ⟨(z : Int), (m : Int), u⟩ := x
  obtain ⟨h1, h2, h3, h4⟩ : 0 ≤ z ∧ z ≤ 8380416 ∧ 0 < m ∧ m ≤ 523776 := hq
  have e1 := Int.emod_nonneg z (show m ≠ 0 by omega)
  have e2 := Int.emod_lt_of_pos z h3
  unfold p_dring_near fNear
  simp only [tmod_pos h1, tdiv_pos (show (0 : Int) ≤ m by omega)]
  rw [if_neg (by omega), wrap_i32 (x := m / 2) (by omega) (by omega)]
  split
  · rw [wrap_i32 (by omega) (by omega)]
  · rfl
theorem at_near {z m : Int} (h1 : 0 ≤ z) (h2 : z ≤ 8380416) (h3 : 0 < m) (h4 : m ≤ 523776) : g_dring_near (z, m, ()) = some (fNear z m) :=
  Spec_at (ks := p_dring_near_ks) (rs := p_dring_near_rs) (x := (z, m, ())) ⟨okInt_i32.2 ⟨by omega, by omega⟩, okInt_i32.2 ⟨show -2147483648 ≤ m by omega, show m ≤ 2147483647 by omega⟩, trivial⟩ ⟨h1, h2, h3, h4⟩
theorem fNear_bound {z m : Int} (hz : 0 ≤ z) (h3 : 0 < m) : fNear z m ≤ m / 2 ∧ 2 * fNear z m ≥ -m ∧ fNear z m ≤ z ∧ z - fNear z m ≤ z + m := by
  have e1 := Int.emod_nonneg z (show m ≠ 0 by omega)
  have e2 := Int.emod_lt_of_pos z h3
  have e3 : z % m ≤ z := by
    have := Int.mul_ediv_add_emod z m
    have := Int.mul_nonneg (show 0 ≤ m by omega) (Int.ediv_nonneg hz (show 0 ≤ m by omega))
    omega
  unfold fNear
  split <;> omega

theorem q_dring_parts : ∀ x r, g_dring_parts x = some r → ∃ N, p_dring_parts N x = some r := by
  refine Spec_of (ks := p_dring_parts_ks) (rs := p_dring_parts_rs) fun x hw _ => ⟨0, ?_⟩
  obtain ⟨(z : Int), u⟩ := x
  have hz := okInt_i32.1 hw.1
  simp only at hz
  have h1 : 0 ≤ z % 8380417 ∧ z % 8380417 ≤ 8380416 := by omega
  have hb := fNear_bound (z := z % 8380417) (m := 523776) (by omega) (by omega)
  unfold p_dring_parts fDh fDl fDl0
  simp (disch := omega) only [wrap_i64, at_below, at_near, Option.bind_some, wrap_i32]
  generalize fNear (z % 8380417) 523776 = y at hb
  generalize z % 8380417 = x at h1 hb
  rw [tdiv_pos (by omega), wrap_i32 (x := (x - y) / 523776) (by omega) (by omega)]
  split <;> rfl
theorem at_parts {z : Int} (h1 : -2147483648 ≤ z) (h2 : z ≤ 2147483647) : g_dring_parts (z, ()) = some (fDh z, fDl z) :=
  Spec_at (ks := p_dring_parts_ks) (rs := p_dring_parts_rs) (x := (z, ())) ⟨okInt_i32.2 ⟨h1, h2⟩, trivial⟩ trivial

theorem ishr_i32 {x d : Int} (h : 0 ≤ d) (h1 : d ≤ 31) : ishr .i32 x d = x / 2 ^ d.toNat := by
  unfold ishr
  rw [show min d.toNat IntKind.i32.bits = d.toNat by simp [IntKind.bits]; omega]
  exact Int.fdiv_eq_ediv_of_nonneg _ (Int.le_of_lt (Int.pow_pos (by omega)))

theorem q_dring_Power2Round : ∀ x r, g_dring_Power2Round x = some r → ∃ N, p_dring_Power2Round N x = some r := by
  refine Spec_of (ks := p_dring_Power2Round_ks) (rs := p_dring_Power2Round_rs) fun x hw _ => ⟨257, ?_⟩
  obtain ⟨(a : List Int), u⟩ := x
  have ha := wf_d1.1 hw
  have hl := ha.1
  unfold p_dring_Power2Round
  have hz : (List.replicate 256 (0 : Int)).length = 256 := List.length_replicate ..
  generalize List.replicate 256 (0 : Int) = Z at hz ⊢
  simp only [at_Reduce ha, Option.bind_some]
  refine (iter_run (s := fun i => (fDRed a, (i : Int), part (fun i => fPh (a.getD i 0)) i (Z), part (fun i => fPl (a.getD i 0)) i (Z), ())) (y := (dpoly fun i => fPh (a.getD i 0), dpoly fun i => fPl (a.getD i 0), ())) 256 ?_ ?_ 257 (by omega)).trans ?_
  · intro i hi kn
    have h0 := fDRed_at a i
    have hb := fNear_bound (z := a.getD i 0 % 8380417) (m := 8192) (by omega) (by omega)
    have hp : ∀ h : Nat → Int, (part h i (Z)).length = 256 := fun h => by rw [part_length (by omega), hz]
    have hp1 := hp (fun i => fPh (a.getD i 0))
    have hp2 := hp (fun i => fPl (a.getD i 0))
    unfold p_dring_Power2Round_l2_F
    simp (disch := omega) only [if_pos, wrap_i64, Int.toNat_natCast, at_near, Option.bind_some, getD_set_eq, fDRed_getD, wrap_i32, ishr_i32]
    rw [part_set' (h := fun i => fPh (a.getD i 0)) (by omega) (by simp only [fPh, fPl]; rfl), part_set' (h := fun i => fPl (a.getD i 0)) (z := fNear (a.getD i 0 % 8380417) 8192) (by omega) rfl, Int.natCast_add]
    rfl
  · intro kn
    unfold p_dring_Power2Round_l2_F
    simp (disch := omega) only [if_neg]
    rw [part_all hz, part_all hz]
    rfl
  · rfl
theorem q_dring_Decompose : ∀ x r, g_dring_Decompose x = some r → ∃ N, p_dring_Decompose N x = some r := by
  refine Spec_of (ks := p_dring_Decompose_ks) (rs := p_dring_Decompose_rs) fun x hw _ => ⟨257, ?_⟩
  obtain ⟨(a : List Int), u⟩ := x
  have ha := wf_d1.1 hw
  have hl := ha.1
  unfold p_dring_Decompose
  have hz : (List.replicate 256 (0 : Int)).length = 256 := List.length_replicate ..
  generalize List.replicate 256 (0 : Int) = Z at hz ⊢
  refine (iter_run (s := fun i => (a, (i : Int), part (fun i => fDh (a.getD i 0)) i (Z), part (fun i => fDl (a.getD i 0)) i (Z), ())) (y := (dpoly fun i => fDh (a.getD i 0), dpoly fun i => fDl (a.getD i 0), ())) 256 ?_ ?_ 257 (by omega)).trans ?_
  · intro i hi kn
    have h0 := i32_at ha i
    unfold p_dring_Decompose_l2_F
    simp (disch := omega) only [if_pos, wrap_i64, Int.toNat_natCast, at_parts, Option.bind_some]
    rw [part_set' (h := fun i => fDh (a.getD i 0)) (by omega) rfl, part_set' (h := fun i => fDl (a.getD i 0)) (by omega) rfl, Int.natCast_add]
    rfl
  · intro kn
    unfold p_dring_Decompose_l2_F
    simp (disch := omega) only [if_neg]
    rw [part_all hz, part_all hz]
    rfl
  · rfl
theorem at_P2R {a : List Int} (h : i32s 256 a) : g_dring_Power2Round (a, ()) = some (fP2R a) :=
  Spec_at (ks := p_dring_Power2Round_ks) (rs := p_dring_Power2Round_rs) (x := (a, ())) (wf_d1.2 h) trivial
theorem at_Dec {a : List Int} (h : i32s 256 a) : g_dring_Decompose (a, ()) = some (fDec a) :=
  Spec_at (ks := p_dring_Decompose_ks) (rs := p_dring_Decompose_rs) (x := (a, ())) (wf_d1.2 h) trivial
theorem at_rP2R {a : List Int} (h : i32s 256 a) : g_ref15_Power2Round (a, ()) = some (fP2R a) :=
  Spec_at (ks := p_ref15_Power2Round_ks) (rs := p_ref15_Power2Round_rs) (x := (a, ())) (wf_d1.2 h) trivial
theorem at_rDec {a : List Int} (h : i32s 256 a) : g_ref15_Decompose (a, ()) = some (fDec a) :=
  Spec_at (ks := p_ref15_Decompose_ks) (rs := p_ref15_Decompose_rs) (x := (a, ())) (wf_d1.2 h) trivial

theorem q_ref15_Power2Round : ∀ x r, g_ref15_Power2Round x = some r → ∃ N, p_ref15_Power2Round N x = some r := by
  refine Spec_of (ks := p_ref15_Power2Round_ks) (rs := p_ref15_Power2Round_rs) fun x hw _ => ⟨257, ?_⟩
  obtain ⟨(a : List Int), u⟩ := x
  have ha := wf_d1.1 hw
  have hl := ha.1
  unfold p_ref15_Power2Round
  have hz : (List.replicate 256 (0 : Int)).length = 256 := List.length_replicate ..
  generalize List.replicate 256 (0 : Int) = Z at hz ⊢
  simp only [at_rReduce ha, Option.bind_some]
  refine (iter_run (s := fun i => ((i : Int), fDRed a, Z, Z, part (fun i => fPh (a.getD i 0)) i (Z), part (fun i => fPl (a.getD i 0)) i (Z), ())) (y := (Z, Z, dpoly fun i => fPh (a.getD i 0), dpoly fun i => fPl (a.getD i 0), ())) 256 ?_ ?_ 257 (by omega)).trans ?_
  · intro i hi kn
    have h0 := fDRed_at a i
    have hb := fNear_bound (z := a.getD i 0 % 8380417) (m := 8192) (by omega) (by omega)
    have hp : ∀ h : Nat → Int, (part h i (Z)).length = 256 := fun h => by rw [part_length (by omega), hz]
    have hp1 := hp (fun i => fPh (a.getD i 0))
    have hp2 := hp (fun i => fPl (a.getD i 0))
    have key : ∀ v : Int, v = fPl (a.getD i 0) → ∀ w : Int, w = fPh (a.getD i 0) → ∀ kn : (Int × List Int × List Int × List Int × List Int × List Int × Unit) → Option (List Int × List Int),
        kn ((i : Int) + 1, fDRed a, Z, Z, (part (fun i => fPh (a.getD i 0)) i (Z)).set i w, (part (fun i => fPl (a.getD i 0)) i (Z)).set i v, ()) =
        kn (((i + 1 : Nat) : Int), fDRed a, Z, Z, part (fun i => fPh (a.getD i 0)) (i + 1) (Z), part (fun i => fPl (a.getD i 0)) (i + 1) (Z), ()) := by
      intro v hv w hw kn
      rw [part_set' (h := fun i => fPh (a.getD i 0)) (by omega) hw, part_set' (h := fun i => fPl (a.getD i 0)) (by omega) hv, Int.natCast_add]
      rfl
    have hA : (fDRed a).getD i 0 = a.getD i 0 % 8380417 := fDRed_getD hi
    have g1 : (i : Int) < 256 := by omega
    have g0 : (0 : Int) ≤ i := by omega
    have s1 : ∀ v : Int, ((part (fun i => fPl (a.getD i 0)) i Z).set i v).getD i 0 = v := fun v => getD_set_eq (by omega)
    unfold p_ref15_Power2Round_l4_F
    simp only [g1, g0, hi, if_true, Int.toNat_natCast, s1, List.set_set, hA]
    simp (disch := omega) only [tmod_pos, tdiv_pos, wrap_i32, wrap_i64]
    split
    · rename_i hgt
      have hv : a.getD i 0 % 8380417 % 8192 - 8192 = fPl (a.getD i 0) := by unfold fPl fNear; rw [if_pos (by omega)]
      refine key _ hv _ ?_ kn
      unfold fPh
      rw [← hv]
    · rename_i hgt
      have hv : a.getD i 0 % 8380417 % 8192 = fPl (a.getD i 0) := by unfold fPl fNear; rw [if_neg (by omega)]
      refine key _ hv _ ?_ kn
      unfold fPh
      rw [← hv]
  · intro kn
    unfold p_ref15_Power2Round_l4_F
    simp (disch := omega) only [if_neg]
    rw [part_all hz, part_all hz]
    rfl
  · rfl
theorem q_ref15_Decompose : ∀ x r, g_ref15_Decompose x = some r → ∃ N, p_ref15_Decompose N x = some r := by
  refine Spec_of (ks := p_ref15_Decompose_ks) (rs := p_ref15_Decompose_rs) fun x hw _ => ⟨257, ?_⟩
  obtain ⟨(a : List Int), u⟩ := x
  have ha := wf_d1.1 hw
  have hl := ha.1
  unfold p_ref15_Decompose
  have hz : (List.replicate 256 (0 : Int)).length = 256 := List.length_replicate ..
  have hz0 : ∀ i, (List.replicate 256 (0 : Int)).getD i 0 = 0 := getD_replicate 256
  generalize List.replicate 256 (0 : Int) = Z at hz hz0 ⊢
  simp only [at_rReduce ha, Option.bind_some]
  refine (iter_run (s := fun i => ((i : Int), fDRed a, Z, Z, part (fun i => fDh (a.getD i 0)) i Z, part (fun i => fDl (a.getD i 0)) i Z, ())) (y := (Z, Z, dpoly fun i => fDh (a.getD i 0), dpoly fun i => fDl (a.getD i 0), ())) 256 ?_ ?_ 257 (by omega)).trans ?_
  · intro i hi kn
    have h0 := fDRed_at a i
    have hp : ∀ h : Nat → Int, (part h i Z).length = 256 := fun h => by rw [part_length (by omega), hz]
    have hp1 := hp (fun i => fDh (a.getD i 0))
    have hp2 := hp (fun i => fDl (a.getD i 0))
    have key : ∀ v : Int, v = fDl (a.getD i 0) → ∀ w : Int, w = fDh (a.getD i 0) → ∀ kn : (Int × List Int × List Int × List Int × List Int × List Int × Unit) → Option (List Int × List Int),
        kn ((i : Int) + 1, fDRed a, Z, Z, (part (fun i => fDh (a.getD i 0)) i Z).set i w, (part (fun i => fDl (a.getD i 0)) i Z).set i v, ()) =
        kn (((i + 1 : Nat) : Int), fDRed a, Z, Z, part (fun i => fDh (a.getD i 0)) (i + 1) Z, part (fun i => fDl (a.getD i 0)) (i + 1) Z, ()) := by
      intro v hv w hw kn
      rw [part_set' (h := fun i => fDh (a.getD i 0)) (by omega) hw, part_set' (h := fun i => fDl (a.getD i 0)) (by omega) hv, Int.natCast_add]
      rfl
    have key0 : ∀ v : Int, v = fDl (a.getD i 0) → fDh (a.getD i 0) = 0 → ∀ kn : (Int × List Int × List Int × List Int × List Int × List Int × Unit) → Option (List Int × List Int),
        kn ((i : Int) + 1, fDRed a, Z, Z, part (fun i => fDh (a.getD i 0)) i Z, (part (fun i => fDl (a.getD i 0)) i Z).set i v, ()) =
        kn (((i + 1 : Nat) : Int), fDRed a, Z, Z, part (fun i => fDh (a.getD i 0)) (i + 1) Z, part (fun i => fDl (a.getD i 0)) (i + 1) Z, ()) := by
      intro v hv hw kn
      have e : part (fun i => fDh (a.getD i 0)) (i + 1) Z = part (fun i => fDh (a.getD i 0)) i Z := by
        rw [← part_set' (h := fun i => fDh (a.getD i 0)) (z := 0) (by omega) hw.symm]
        refine rows.ext (n := 256) (by rw [List.length_set, hp1]) hp1 fun j hj => ?_
        by_cases hji : i = j
        · subst hji
          rw [getD_set_eq (by omega), part_getD_self, hz0]
        · rw [getD_set_ne hji]
      rw [e, part_set' (h := fun i => fDl (a.getD i 0)) (by omega) hv, Int.natCast_add]
      rfl
    have hA : (fDRed a).getD i 0 = a.getD i 0 % 8380417 := fDRed_getD hi
    have g1 : (i : Int) < 256 := by omega
    have g0 : (0 : Int) ≤ i := by omega
    have s1 : ∀ v : Int, ((part (fun i => fDl (a.getD i 0)) i Z).set i v).getD i 0 = v := fun v => getD_set_eq (by omega)
    unfold p_ref15_Decompose_l4_F
    simp only [g1, g0, hi, if_true, Int.toNat_natCast, s1, List.set_set, hA]
    simp (disch := omega) only [tmod_pos, tdiv_pos, wrap_i32, wrap_i64]
    have hnear : fDl0 (a.getD i 0) = if a.getD i 0 % 8380417 % 523776 > 261888 then a.getD i 0 % 8380417 % 523776 - 523776 else a.getD i 0 % 8380417 % 523776 := rfl
    have hdl : fDl (a.getD i 0) = if a.getD i 0 % 8380417 - fDl0 (a.getD i 0) = 8380416 then fDl0 (a.getD i 0) - 1 else fDl0 (a.getD i 0) := rfl
    have hdh : fDh (a.getD i 0) = if a.getD i 0 % 8380417 - fDl0 (a.getD i 0) = 8380416 then 0 else (a.getD i 0 % 8380417 - fDl0 (a.getD i 0)) / 523776 := rfl
    split
    · rename_i hgt
      rw [if_pos hgt] at hnear
      rw [hnear] at hdl hdh
      split
      · rename_i hq
        rw [if_pos hq] at hdl hdh
        exact key0 _ hdl.symm hdh kn
      · rename_i hq
        rw [if_neg hq] at hdl hdh
        exact key _ hdl.symm _ hdh.symm kn
    · rename_i hgt
      rw [if_neg hgt] at hnear
      rw [hnear] at hdl hdh
      split
      · rename_i hq
        rw [if_pos hq] at hdl hdh
        exact key0 _ hdl.symm hdh kn
      · rename_i hq
        rw [if_neg hq] at hdl hdh
        exact key _ hdl.symm _ hdh.symm kn
  · intro kn
    unfold p_ref15_Decompose_l4_F
    simp (disch := omega) only [if_neg]
    rw [part_all hz, part_all hz]
    rfl
  · rfl

theorem q_law15_live : ∀ x r, g_law15_live x = some r → ∃ N, p_law15_live N x = some r := by
  refine Spec_of (ks := p_law15_live_ks) (rs := p_law15_live_rs) fun x hw _ => ⟨0, ?_⟩
  unfold p_law15_live
  have h1 : i32s 256 ((List.replicate 256 (0 : Int)).set 0 8380416) := (rows.zero (by omega) 256).set (by omega)
  have h2 : i32s 256 ((List.replicate 256 (0 : Int)).set 0 4097) := (rows.zero (by omega) 256).set (by omega)
  rw [at_Dec h1, at_P2R h2]
  decide +kernel

theorem q_law15_DringRounds : ∀ x r, g_law15_DringRounds x = some r → ∃ N, p_law15_DringRounds N x = some r := by
  refine Spec_of (ks := p_law15_DringRounds_ks) (rs := p_law15_DringRounds_rs) fun x hw _ => ⟨0, ?_⟩
  obtain ⟨(a : List Int), u⟩ := x
  have ha := wf_d1.1 hw
  have hlive : g_law15_live () = some true := Spec_at (ks := []) (rs := [.bool]) (x := ()) trivial trivial
  unfold p_law15_DringRounds
  simp only [at_P2R ha, at_rP2R ha, at_Dec ha, at_rDec ha, hlive, Option.bind_some, if_true, decide_true]

end Go.Ax.TryP
/-! Printed by program (wires.py): the functions keep their signatures. -/
namespace Go.Ax.TryP
theorem s_dring_below : SigOk Go.Proofs.Try.prog 59 ⟨[.int .i64], [.int .i32], g_dring_below⟩ := p_dring_below_ok q_dring_below
theorem s_dring_Reduce_1 : SigOk Go.Proofs.Try.prog 58 ⟨[.int .i32], [.int .i32], g_dring_Reduce_1⟩ := p_dring_Reduce_1_ok s_dring_below q_dring_Reduce_1
theorem s_dring_each__dring_Reduce_1 : SigOk Go.Proofs.Try.prog 57 ⟨[.xs (.int .i32) 256, .fnc 58], [.xs (.int .i32) 256], g_dring_each__dring_Reduce_1⟩ := p_dring_each__dring_Reduce_1_ok s_dring_Reduce_1 q_dring_each__dring_Reduce_1
theorem s_dring_Reduce : SigOk Go.Proofs.Try.prog 18 ⟨[.xs (.int .i32) 256], [.xs (.int .i32) 256], g_dring_Reduce⟩ := p_dring_Reduce_ok s_dring_each__dring_Reduce_1 q_dring_Reduce
theorem s_dring_near : SigOk Go.Proofs.Try.prog 55 ⟨[.int .i32, .int .i32], [.int .i32], g_dring_near⟩ := p_dring_near_ok q_dring_near
theorem s_dring_parts : SigOk Go.Proofs.Try.prog 56 ⟨[.int .i32], [.int .i32, .int .i32], g_dring_parts⟩ := p_dring_parts_ok s_dring_below s_dring_near q_dring_parts
theorem s_dring_Power2Round : SigOk Go.Proofs.Try.prog 13 ⟨[.xs (.int .i32) 256], [.xs (.int .i32) 256, .xs (.int .i32) 256], g_dring_Power2Round⟩ := p_dring_Power2Round_ok s_dring_Reduce s_dring_near q_dring_Power2Round
theorem s_dring_Decompose : SigOk Go.Proofs.Try.prog 15 ⟨[.xs (.int .i32) 256], [.xs (.int .i32) 256, .xs (.int .i32) 256], g_dring_Decompose⟩ := p_dring_Decompose_ok s_dring_parts q_dring_Decompose
theorem s_ref15_mod : SigOk Go.Proofs.Try.prog 66 ⟨[.int .i64], [.int .i64], g_ref15_mod⟩ := p_ref15_mod_ok q_ref15_mod
theorem s_ref15_Reduce : SigOk Go.Proofs.Try.prog 40 ⟨[.xs (.int .i32) 256], [.xs (.int .i32) 256], g_ref15_Reduce⟩ := p_ref15_Reduce_ok s_ref15_mod q_ref15_Reduce
theorem s_ref15_Power2Round : SigOk Go.Proofs.Try.prog 14 ⟨[.xs (.int .i32) 256], [.xs (.int .i32) 256, .xs (.int .i32) 256], g_ref15_Power2Round⟩ := p_ref15_Power2Round_ok s_ref15_Reduce q_ref15_Power2Round
theorem s_ref15_Decompose : SigOk Go.Proofs.Try.prog 16 ⟨[.xs (.int .i32) 256], [.xs (.int .i32) 256, .xs (.int .i32) 256], g_ref15_Decompose⟩ := p_ref15_Decompose_ok s_ref15_Reduce q_ref15_Decompose
theorem s_law15_live : SigOk Go.Proofs.Try.prog 17 ⟨[], [.bool], g_law15_live⟩ := p_law15_live_ok s_dring_Decompose s_dring_Power2Round q_law15_live
theorem s_law15_DringRounds : SigOk Go.Proofs.Try.prog 3 ⟨[.xs (.int .i32) 256], [.bool], g_law15_DringRounds⟩ := p_law15_DringRounds_ok s_dring_Power2Round s_ref15_Power2Round s_dring_Decompose s_ref15_Decompose s_law15_live q_law15_DringRounds
end Go.Ax.TryP
