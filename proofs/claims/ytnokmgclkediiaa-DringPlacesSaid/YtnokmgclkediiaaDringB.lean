/- A part of the proof: DringS2, DringP2, DringQ2, DringQ3, DringW2. -/
import Derived.Test.YtnokmgclkediiaaDringA
/-! ### Centred numbers, sums, hints -/
namespace Go.Ax.TryP

def fCen (z : Int) : Int := if z % 8380417 > 4190208 then z % 8380417 - 8380417 else z % 8380417
def fDCen (a : List Int) : List Int := dpoly fun i => fCen (a.getD i 0)
def iabs (z : Int) : Int := if z < 0 then -z else z
@[irreducible] def normN (a : List Int) (n : Nat) : Int := (List.range n).foldl (fun m i => if iabs (fCen (a.getD i 0)) > m then iabs (fCen (a.getD i 0)) else m) 0
def fNorm (a : List Int) : Int := normN a 256
def fDAdd (a b : List Int) : List Int := dpoly fun i => (a.getD i 0 + b.getD i 0) % 8380417
def fDSub (a b : List Int) : List Int := dpoly fun i => (a.getD i 0 - b.getD i 0) % 8380417
def hintAt (z r : List Int) (i : Nat) : Int := if fDh (r.getD i 0) ≠ fDh ((r.getD i 0 + z.getD i 0) % 8380417) then 1 else 0
@[irreducible] def cntN (h : Nat → Int) (n : Nat) : Int := (List.range n).foldl (fun m i => if h i ≠ 0 then m + 1 else m) 0
def fHint (z r : List Int) : List Int × Int := (dpoly (hintAt z r), cntN (hintAt z r) 256)
def useAt (h r : Int) : Int := if h ≠ 0 then if fDl r > 0 then (fDh r + 1) % 16 else (fDh r + 15) % 16 else fDh r
def fUse (h r : List Int) : List Int := dpoly fun i => useAt (h.getD i 0) (r.getD i 0)

abbrev DP : Kd := .xs (.int .i32) 256
abbrev HP : Kd := .xs .bool 256
noncomputable def g_dring_centred : Int × Unit → Option Int := Spec (ks := [.int .i32]) (rs := [.int .i32]) (fun _ => True) fun x => fCen x.1
noncomputable def g_dring_each__dring_centred : List Int × Unit × Unit → Option (List Int) := Spec (ks := [.xs (.int .i32) 256, .fnc 67]) (rs := [.xs (.int .i32) 256]) (fun _ => True) fun x => fDCen x.1
noncomputable def g_dring_Center : List Int × Unit → Option (List Int) := Spec (ks := [.xs (.int .i32) 256]) (rs := [.xs (.int .i32) 256]) (fun _ => True) fun x => fDCen x.1
noncomputable def g_ref15_Center : List Int × Unit → Option (List Int) := Spec (ks := [.xs (.int .i32) 256]) (rs := [.xs (.int .i32) 256]) (fun _ => True) fun x => fDCen x.1
noncomputable def g_dring_Norm : List Int × Unit → Option Int := Spec (ks := [.xs (.int .i32) 256]) (rs := [.int .i32]) (fun _ => True) fun x => fNorm x.1
noncomputable def g_ref15_size : Int × Unit → Option Int := Spec (ks := [.int .i32]) (rs := [.int .i32]) (fun x => -2147483648 < x.1) fun x => iabs x.1
noncomputable def g_ref15_Norm : List Int × Unit → Option Int := Spec (ks := [.xs (.int .i32) 256]) (rs := [.int .i32]) (fun _ => True) fun x => fNorm x.1
noncomputable def g_dring_Add : List Int × List Int × Unit → Option (List Int) := Spec (ks := [.xs (.int .i32) 256, .xs (.int .i32) 256]) (rs := [.xs (.int .i32) 256]) (fun _ => True) fun x => fDAdd x.1 x.2.1
noncomputable def g_ref15_Add : List Int × List Int × Unit → Option (List Int) := Spec (ks := [.xs (.int .i32) 256, .xs (.int .i32) 256]) (rs := [.xs (.int .i32) 256]) (fun _ => True) fun x => fDAdd x.1 x.2.1
noncomputable def g_dring_Sub : List Int × List Int × Unit → Option (List Int) := Spec (ks := [.xs (.int .i32) 256, .xs (.int .i32) 256]) (rs := [.xs (.int .i32) 256]) (fun _ => True) fun x => fDSub x.1 x.2.1
noncomputable def g_ref15_Sub : List Int × List Int × Unit → Option (List Int) := Spec (ks := [.xs (.int .i32) 256, .xs (.int .i32) 256]) (rs := [.xs (.int .i32) 256]) (fun _ => True) fun x => fDSub x.1 x.2.1
noncomputable def g_dring_MakeHint : List Int × List Int × Unit → Option (List Int × Int) := Spec (ks := [.xs (.int .i32) 256, .xs (.int .i32) 256]) (rs := [.xs .bool 256, .int .i64]) (fun _ => True) fun x => fHint x.1 x.2.1
noncomputable def g_ref15_MakeHint : List Int × List Int × Unit → Option (List Int × Int) := Spec (ks := [.xs (.int .i32) 256, .xs (.int .i32) 256]) (rs := [.xs .bool 256, .int .i64]) (fun _ => True) fun x => fHint x.1 x.2.1
noncomputable def g_dring_UseHint : List Int × List Int × Unit → Option (List Int) := Spec (ks := [.xs .bool 256, .xs (.int .i32) 256]) (rs := [.xs (.int .i32) 256]) (fun _ => True) fun x => fUse x.1 x.2.1
noncomputable def g_ref15_UseHint : List Int × List Int × Unit → Option (List Int) := Spec (ks := [.xs .bool 256, .xs (.int .i32) 256]) (rs := [.xs (.int .i32) 256]) (fun _ => True) fun x => fUse x.1 x.2.1
noncomputable def g_law15_DringParts : List Int × Unit → Option Bool := Spec (ks := [.xs (.int .i32) 256]) (rs := [.bool]) (fun _ => True) fun _ => true
noncomputable def g_law15_DringHints : List Int × List Int × List Int × Unit → Option Bool := Spec (ks := [.xs (.int .i32) 256, .xs (.int .i32) 256, .xs .bool 256]) (rs := [.bool]) (fun _ => True) fun _ => true
noncomputable def g_law15_DringMends : List Int × List Int × Unit → Option Bool := Spec (ks := [.xs (.int .i32) 256, .xs (.int .i32) 256]) (rs := [.bool]) (fun _ => True) fun _ => true
end Go.Ax.TryP
/-! Printed by program (gen.py). -/
set_option linter.unusedVariables false
namespace Go.Ax.TryP
/-! livery/dring.centred -/
noncomputable def p_dring_centred_E : AE := AE.of [(2, ty2), (21, ty21)] [(59, ⟨[.int .i64], [.int .i32], g_dring_below⟩)]
noncomputable def p_dring_centred_H : Hints := [(3000000, [2])]
noncomputable def p_dring_centred_c : Code := (Go.Proofs.Try.f67).body.getD .skip
abbrev p_dring_centred_ks : List Kd := [.int .i32]
abbrev p_dring_centred_rs : List Kd := [.int .i32]
noncomputable def p_dring_centred (N : Nat) (x : Int × Unit) : Option (Int) :=
  (g_dring_below ((IntKind.i64.wrap x.1), ())).bind fun r1 => (
  if (r1 > (4190208:Int)) then
    some (IntKind.i32.wrap (r1 - (8380417:Int)))
  else
    some r1)
theorem p_dring_centred_eq (N : Nat) (x : Ds [.int .i32]) : funL p_dring_centred_E p_dring_centred_H (LT.nil) N Go.Proofs.Try.f67 p_dring_centred_c [.int .i32] [.int .i32] x = p_dring_centred N x := by kernel_rfl
theorem p_dring_centred_Eok (he_dring_below : SigOk Go.Proofs.Try.prog 59 ⟨[.int .i64], [.int .i32], g_dring_below⟩) : p_dring_centred_E.Ok Go.Proofs.Try.prog := AE.of_ok (all_cons ty2_ok (all_cons ty21_ok all_nil)) (all_cons ⟨he_dring_below, enters_dring_below⟩ all_nil)
theorem p_dring_centred_ok (he_dring_below : SigOk Go.Proofs.Try.prog 59 ⟨[.int .i64], [.int .i32], g_dring_below⟩) {g : Ds [.int .i32] → Option (Rs [.int .i32])} (hg : ∀ x r, g x = some r → ∃ N, p_dring_centred N x = some r) : SigOk Go.Proofs.Try.prog 67 ⟨[.int .i32], [.int .i32], g⟩ :=
  fun_of (E := p_dring_centred_E) (H := p_dring_centred_H) (L := fun N => LT.nil) (c := p_dring_centred_c) (ks := p_dring_centred_ks) (rs := p_dring_centred_rs) (F := p_dring_centred) (p_dring_centred_Eok he_dring_below) mix Go.Proofs.Try.func67 (by kernel_rfl) (fun N => OkAll.nil) p_dring_centred_eq hg

/-! livery/dring.each -/
noncomputable def p_dring_each__dring_centred_E : AE := AE.of [(21, ty21), (23, ty23)] [(67, ⟨[.int .i32], [.int .i32], g_dring_centred⟩)]
noncomputable def p_dring_each__dring_centred_H : Hints := [(2, [1, 2, 4, 7, 8]), (2000000, [2, 4]), (2000001, [1, 2, 4, 7, 8]), (3000000, [4])]
noncomputable def p_dring_each__dring_centred_c : Code := (Go.Proofs.Try.f57).body.getD .skip
noncomputable def p_dring_each__dring_centred_l2_S : Shape where
  h := { tmps := [.any, .sc (.fn 67), .sc (.ptr 0 0 false), .any, .sc (.ptr 1 0 false), .any, .any, .agg [.xs (.int .i32) (some 256)], .sc (.int .i64), .any, .any, .any, .any, .any, .any, .any, .any, .any, .any], mem := [.live [.xs (.int .i32) (some 256)] (.own), .live [.xs (.int .i32) (some 256)] (.own)] }
  ks := [.xs, .int, .xs, .xs]
  st := fun x => { tmps := [.one .any, .one (.sc (.fn 67)), .one (.sc (.ptr 0 0 none)), .one .any, .one (.sc (.ptr 1 0 none)), .one .any, .one .any, .one (.agg [.xs (.int .i32) 256 x.1]), .one (.sc (.int .i64 x.2.1)), .one .any, .one .any, .one .any, .one .any, .one .any, .one .any, .one .any, .one .any, .one .any, .one .any], mem := [.live { segs := [.xs (.int .i32) 256 x.2.2.1], own := .own }, .live { segs := [.xs (.int .i32) 256 x.2.2.2.1], own := .own }] }
noncomputable def p_dring_each__dring_centred_l2_F (N : Nat) (β : Type) (x : (List Int × Int × List Int × List Int × Unit)) (kn : (List Int × Int × List Int × List Int × Unit) → Option β) (ke : ((List Int × List Int × Unit)) → Option β) : Option β :=
  if (x.2.1 < (256:Int)) then
    if 0 ≤ x.2.1 then (
    if x.2.1 < 256 then (
    if (x.2.1.toNat) < 256 then (
    (g_dring_centred ((List.getD x.1 (x.2.1.toNat) 0), ())).bind fun r1 => (
    if 0 ≤ x.2.1 then (
    if x.2.1 < 256 then (
    if (x.2.1.toNat) < 256 then (
    kn (x.1, (IntKind.i64.wrap (x.2.1 + (1:Int))), (List.set x.2.2.1 (x.2.1.toNat) r1), x.2.2.2.1, ())) else none) else none) else none)) else none) else none) else none
  else
    ke (x.2.2.1, x.2.2.2.1, ())
noncomputable def p_dring_each__dring_centred_l2_go : Go' ((List Int × List Int × Unit)) := fun y K => K (.exit 0) { tmps := [.one .any, .one .any, .one (.sc (.ptr 0 0 none)), .one .any, .one (.sc (.ptr 1 0 none)), .one .any, .one .any, .one .any, .one .any, .one .any, .one .any, .one .any, .one .any, .one .any, .one .any, .one .any, .one .any, .one .any, .one .any], mem := [.live { segs := [.xs (.int .i32) 256 y.1], own := .own }, .live { segs := [.xs (.int .i32) 256 y.2.1], own := .own }] }
noncomputable def p_dring_each__dring_centred_l2_L (N : Nat) : LT := upd (LT.nil) 2 (loopE p_dring_each__dring_centred_l2_S N (p_dring_each__dring_centred_l2_F N) p_dring_each__dring_centred_l2_go)
theorem p_dring_each__dring_centred_l2_ok (N : Nat) : OkAll p_dring_each__dring_centred_E p_dring_each__dring_centred_H N (p_dring_each__dring_centred_l2_L N) (subs p_dring_each__dring_centred_c) :=
  addLoop (c := theLoop 2 p_dring_each__dring_centred_c) (OkAll.nil) (by kernel_rfl) (fun x => by kernel_rfl) (fun β x kn ke => by kernel_rfl)
abbrev p_dring_each__dring_centred_ks : List Kd := [.xs (.int .i32) 256, .fnc 67]
abbrev p_dring_each__dring_centred_rs : List Kd := [.xs (.int .i32) 256]
noncomputable def p_dring_each__dring_centred (N : Nat) (x : List Int × Unit × Unit) : Option (List Int) :=
  iter (p_dring_each__dring_centred_l2_F N) N (x.1, (0:Int), x.1, (List.replicate 256 0), ()) fun y2 => (
  some y2.1)
theorem p_dring_each__dring_centred_eq (N : Nat) (x : Ds [.xs (.int .i32) 256, .fnc 67]) : funL p_dring_each__dring_centred_E p_dring_each__dring_centred_H (p_dring_each__dring_centred_l2_L N) N Go.Proofs.Try.f57 p_dring_each__dring_centred_c [.xs (.int .i32) 256, .fnc 67] [.xs (.int .i32) 256] x = p_dring_each__dring_centred N x := by kernel_rfl
theorem p_dring_each__dring_centred_Eok (he_dring_centred : SigOk Go.Proofs.Try.prog 67 ⟨[.int .i32], [.int .i32], g_dring_centred⟩) : p_dring_each__dring_centred_E.Ok Go.Proofs.Try.prog := AE.of_ok (all_cons ty21_ok (all_cons ty23_ok all_nil)) (all_cons ⟨he_dring_centred, enters_dring_centred⟩ all_nil)
theorem p_dring_each__dring_centred_ok (he_dring_centred : SigOk Go.Proofs.Try.prog 67 ⟨[.int .i32], [.int .i32], g_dring_centred⟩) {g : Ds [.xs (.int .i32) 256, .fnc 67] → Option (Rs [.xs (.int .i32) 256])} (hg : ∀ x r, g x = some r → ∃ N, p_dring_each__dring_centred N x = some r) : SigOk Go.Proofs.Try.prog 57 ⟨[.xs (.int .i32) 256, .fnc 67], [.xs (.int .i32) 256], g⟩ :=
  fun_of (E := p_dring_each__dring_centred_E) (H := p_dring_each__dring_centred_H) (L := fun N => p_dring_each__dring_centred_l2_L N) (c := p_dring_each__dring_centred_c) (ks := p_dring_each__dring_centred_ks) (rs := p_dring_each__dring_centred_rs) (F := p_dring_each__dring_centred) (p_dring_each__dring_centred_Eok he_dring_centred) mix Go.Proofs.Try.func57 (by kernel_rfl) (fun N => p_dring_each__dring_centred_l2_ok N) p_dring_each__dring_centred_eq hg

/-! livery/dring.Center -/
noncomputable def p_dring_Center_E : AE := AE.of [(23, ty23)] [(57, ⟨[.xs (.int .i32) 256, .fnc 67], [.xs (.int .i32) 256], g_dring_each__dring_centred⟩)]
noncomputable def p_dring_Center_H : Hints := [(3000000, [2])]
noncomputable def p_dring_Center_c : Code := (Go.Proofs.Try.f41).body.getD .skip
abbrev p_dring_Center_ks : List Kd := [.xs (.int .i32) 256]
abbrev p_dring_Center_rs : List Kd := [.xs (.int .i32) 256]
noncomputable def p_dring_Center (N : Nat) (x : List Int × Unit) : Option (List Int) :=
  (g_dring_each__dring_centred (x.1, (), ())).bind fun r1 => (
  some r1)
theorem p_dring_Center_eq (N : Nat) (x : Ds [.xs (.int .i32) 256]) : funL p_dring_Center_E p_dring_Center_H (LT.nil) N Go.Proofs.Try.f41 p_dring_Center_c [.xs (.int .i32) 256] [.xs (.int .i32) 256] x = p_dring_Center N x := by kernel_rfl
theorem p_dring_Center_Eok (he_dring_each__dring_centred : SigOk Go.Proofs.Try.prog 57 ⟨[.xs (.int .i32) 256, .fnc 67], [.xs (.int .i32) 256], g_dring_each__dring_centred⟩) : p_dring_Center_E.Ok Go.Proofs.Try.prog := AE.of_ok (all_cons ty23_ok all_nil) (all_cons ⟨he_dring_each__dring_centred, enters_dring_each⟩ all_nil)
theorem p_dring_Center_ok (he_dring_each__dring_centred : SigOk Go.Proofs.Try.prog 57 ⟨[.xs (.int .i32) 256, .fnc 67], [.xs (.int .i32) 256], g_dring_each__dring_centred⟩) {g : Ds [.xs (.int .i32) 256] → Option (Rs [.xs (.int .i32) 256])} (hg : ∀ x r, g x = some r → ∃ N, p_dring_Center N x = some r) : SigOk Go.Proofs.Try.prog 41 ⟨[.xs (.int .i32) 256], [.xs (.int .i32) 256], g⟩ :=
  fun_of (E := p_dring_Center_E) (H := p_dring_Center_H) (L := fun N => LT.nil) (c := p_dring_Center_c) (ks := p_dring_Center_ks) (rs := p_dring_Center_rs) (F := p_dring_Center) (p_dring_Center_Eok he_dring_each__dring_centred) mix Go.Proofs.Try.func41 (by kernel_rfl) (fun N => OkAll.nil) p_dring_Center_eq hg

/-! livery/liveryref15.Center -/
noncomputable def p_ref15_Center_E : AE := AE.of [(21, ty21), (23, ty23)] [(40, ⟨[.xs (.int .i32) 256], [.xs (.int .i32) 256], g_ref15_Reduce⟩)]
noncomputable def p_ref15_Center_H : Hints := [(3, [1, 2, 6]), (2000000, [1, 2]), (2000001, [1, 2, 6]), (3000000, [2])]
noncomputable def p_ref15_Center_c : Code := (Go.Proofs.Try.f42).body.getD .skip
noncomputable def p_ref15_Center_l3_S : Shape where
  h := { tmps := [.any, .sc (.ptr 0 0 false), .sc (.ptr 1 0 false), .any, .any, .any, .sc (.int .i64), .any, .any, .any, .any, .any, .any, .any, .any, .any, .any, .any, .any, .any], mem := [.live [.xs (.int .i32) (some 256)] (.own), .live [.xs (.int .i32) (some 256)] (.own)] }
  ks := [.int, .xs, .xs]
  st := fun x => { tmps := [.one .any, .one (.sc (.ptr 0 0 none)), .one (.sc (.ptr 1 0 none)), .one .any, .one .any, .one .any, .one (.sc (.int .i64 x.1)), .one .any, .one .any, .one .any, .one .any, .one .any, .one .any, .one .any, .one .any, .one .any, .one .any, .one .any, .one .any, .one .any], mem := [.live { segs := [.xs (.int .i32) 256 x.2.1], own := .own }, .live { segs := [.xs (.int .i32) 256 x.2.2.1], own := .own }] }
noncomputable def p_ref15_Center_l3_F (N : Nat) (β : Type) (x : (Int × List Int × List Int × Unit)) (kn : (Int × List Int × List Int × Unit) → Option β) (ke : ((List Int × List Int × Unit)) → Option β) : Option β :=
  if (x.1 < (256:Int)) then
    if 0 ≤ x.1 then (
    if x.1 < 256 then (
    if (x.1.toNat) < 256 then (
    if ((List.getD x.2.1 (x.1.toNat) 0) > (4190208:Int)) then
      if 0 ≤ x.1 then (
      if x.1 < 256 then (
      if (x.1.toNat) < 256 then (
      if 0 ≤ x.1 then (
      if x.1 < 256 then (
      if (x.1.toNat) < 256 then (
      kn ((IntKind.i64.wrap (x.1 + (1:Int))), (List.set x.2.1 (x.1.toNat) (IntKind.i32.wrap ((List.getD x.2.1 (x.1.toNat) 0) - (8380417:Int)))), x.2.2.1, ())) else none) else none) else none) else none) else none) else none
    else
      kn ((IntKind.i64.wrap (x.1 + (1:Int))), x.2.1, x.2.2.1, ())) else none) else none) else none
  else
    ke (x.2.1, x.2.2.1, ())
noncomputable def p_ref15_Center_l3_go : Go' ((List Int × List Int × Unit)) := fun y K => K (.exit 0) { tmps := [.one .any, .one (.sc (.ptr 0 0 none)), .one (.sc (.ptr 1 0 none)), .one .any, .one .any, .one .any, .one .any, .one .any, .one .any, .one .any, .one .any, .one .any, .one .any, .one .any, .one .any, .one .any, .one .any, .one .any, .one .any, .one .any], mem := [.live { segs := [.xs (.int .i32) 256 y.1], own := .own }, .live { segs := [.xs (.int .i32) 256 y.2.1], own := .own }] }
noncomputable def p_ref15_Center_l3_L (N : Nat) : LT := upd (LT.nil) 3 (loopE p_ref15_Center_l3_S N (p_ref15_Center_l3_F N) p_ref15_Center_l3_go)
theorem p_ref15_Center_l3_ok (N : Nat) : OkAll p_ref15_Center_E p_ref15_Center_H N (p_ref15_Center_l3_L N) (subs p_ref15_Center_c) :=
  addLoop (c := theLoop 3 p_ref15_Center_c) (OkAll.nil) (by kernel_rfl) (fun x => by kernel_rfl) (fun β x kn ke => by kernel_rfl)
abbrev p_ref15_Center_ks : List Kd := [.xs (.int .i32) 256]
abbrev p_ref15_Center_rs : List Kd := [.xs (.int .i32) 256]
noncomputable def p_ref15_Center (N : Nat) (x : List Int × Unit) : Option (List Int) :=
  (g_ref15_Reduce (x.1, ())).bind fun r1 => (
  iter (p_ref15_Center_l3_F N) N ((0:Int), r1, (List.replicate 256 0), ()) fun y2 => (
  some y2.1))
theorem p_ref15_Center_eq (N : Nat) (x : Ds [.xs (.int .i32) 256]) : funL p_ref15_Center_E p_ref15_Center_H (p_ref15_Center_l3_L N) N Go.Proofs.Try.f42 p_ref15_Center_c [.xs (.int .i32) 256] [.xs (.int .i32) 256] x = p_ref15_Center N x := by kernel_rfl
theorem p_ref15_Center_Eok (he_ref15_Reduce : SigOk Go.Proofs.Try.prog 40 ⟨[.xs (.int .i32) 256], [.xs (.int .i32) 256], g_ref15_Reduce⟩) : p_ref15_Center_E.Ok Go.Proofs.Try.prog := AE.of_ok (all_cons ty21_ok (all_cons ty23_ok all_nil)) (all_cons ⟨he_ref15_Reduce, enters_ref15_Reduce⟩ all_nil)
theorem p_ref15_Center_ok (he_ref15_Reduce : SigOk Go.Proofs.Try.prog 40 ⟨[.xs (.int .i32) 256], [.xs (.int .i32) 256], g_ref15_Reduce⟩) {g : Ds [.xs (.int .i32) 256] → Option (Rs [.xs (.int .i32) 256])} (hg : ∀ x r, g x = some r → ∃ N, p_ref15_Center N x = some r) : SigOk Go.Proofs.Try.prog 42 ⟨[.xs (.int .i32) 256], [.xs (.int .i32) 256], g⟩ :=
  fun_of (E := p_ref15_Center_E) (H := p_ref15_Center_H) (L := fun N => p_ref15_Center_l3_L N) (c := p_ref15_Center_c) (ks := p_ref15_Center_ks) (rs := p_ref15_Center_rs) (F := p_ref15_Center) (p_ref15_Center_Eok he_ref15_Reduce) mix Go.Proofs.Try.func42 (by kernel_rfl) (fun N => p_ref15_Center_l3_ok N) p_ref15_Center_eq hg

/-! livery/dring.Norm -/
noncomputable def p_dring_Norm_E : AE := AE.of [(21, ty21), (23, ty23)] [(41, ⟨[.xs (.int .i32) 256], [.xs (.int .i32) 256], g_dring_Center⟩)]
noncomputable def p_dring_Norm_H : Hints := [(3, [3, 7, 8]), (2000000, [3]), (2000001, [3, 7, 8]), (3000000, [2])]
noncomputable def p_dring_Norm_c : Code := (Go.Proofs.Try.f19).body.getD .skip
noncomputable def p_dring_Norm_l3_S : Shape where
  h := { tmps := [.any, .any, .any, .sc (.int .i32), .any, .any, .any, .agg [.xs (.int .i32) (some 256)], .sc (.int .i64), .any, .any, .any, .any, .any, .any, .any, .any, .any], mem := [] }
  ks := [.int, .xs, .int]
  st := fun x => { tmps := [.one .any, .one .any, .one .any, .one (.sc (.int .i32 x.1)), .one .any, .one .any, .one .any, .one (.agg [.xs (.int .i32) 256 x.2.1]), .one (.sc (.int .i64 x.2.2.1)), .one .any, .one .any, .one .any, .one .any, .one .any, .one .any, .one .any, .one .any, .one .any], mem := [] }
noncomputable def p_dring_Norm_l3_F (N : Nat) (β : Type) (x : (Int × List Int × Int × Unit)) (kn : (Int × List Int × Int × Unit) → Option β) (ke : ((Int × Unit)) → Option β) : Option β :=
  if (x.2.2.1 < (256:Int)) then
    if 0 ≤ x.2.2.1 then (
    if x.2.2.1 < 256 then (
    if (x.2.2.1.toNat) < 256 then (
    kn ((if (IntKind.i32.wrap (0 - (List.getD x.2.1 (x.2.2.1.toNat) 0))) > (if (List.getD x.2.1 (x.2.2.1.toNat) 0) > x.1 then (List.getD x.2.1 (x.2.2.1.toNat) 0) else x.1) then (IntKind.i32.wrap (0 - (List.getD x.2.1 (x.2.2.1.toNat) 0))) else (if (List.getD x.2.1 (x.2.2.1.toNat) 0) > x.1 then (List.getD x.2.1 (x.2.2.1.toNat) 0) else x.1)), x.2.1, (IntKind.i64.wrap (x.2.2.1 + (1:Int))), ())) else none) else none) else none
  else
    ke (x.1, ())
noncomputable def p_dring_Norm_l3_go : Go' ((Int × Unit)) := fun y K => K (.exit 0) { tmps := [.one .any, .one .any, .one .any, .one (.sc (.int .i32 y.1)), .one .any, .one .any, .one .any, .one .any, .one .any, .one .any, .one .any, .one .any, .one .any, .one .any, .one .any, .one .any, .one .any, .one .any], mem := [] }
noncomputable def p_dring_Norm_l3_L (N : Nat) : LT := upd (LT.nil) 3 (loopE p_dring_Norm_l3_S N (p_dring_Norm_l3_F N) p_dring_Norm_l3_go)
theorem p_dring_Norm_l3_ok (N : Nat) : OkAll p_dring_Norm_E p_dring_Norm_H N (p_dring_Norm_l3_L N) (subs p_dring_Norm_c) :=
  addLoop (c := theLoop 3 p_dring_Norm_c) (OkAll.nil) (by kernel_rfl) (fun x => by kernel_rfl) (fun β x kn ke => by kernel_rfl)
abbrev p_dring_Norm_ks : List Kd := [.xs (.int .i32) 256]
abbrev p_dring_Norm_rs : List Kd := [.int .i32]
noncomputable def p_dring_Norm (N : Nat) (x : List Int × Unit) : Option (Int) :=
  (g_dring_Center (x.1, ())).bind fun r1 => (
  iter (p_dring_Norm_l3_F N) N ((0:Int), r1, (0:Int), ()) fun y2 => (
  some y2.1))
theorem p_dring_Norm_eq (N : Nat) (x : Ds [.xs (.int .i32) 256]) : funL p_dring_Norm_E p_dring_Norm_H (p_dring_Norm_l3_L N) N Go.Proofs.Try.f19 p_dring_Norm_c [.xs (.int .i32) 256] [.int .i32] x = p_dring_Norm N x := by kernel_rfl
theorem p_dring_Norm_Eok (he_dring_Center : SigOk Go.Proofs.Try.prog 41 ⟨[.xs (.int .i32) 256], [.xs (.int .i32) 256], g_dring_Center⟩) : p_dring_Norm_E.Ok Go.Proofs.Try.prog := AE.of_ok (all_cons ty21_ok (all_cons ty23_ok all_nil)) (all_cons ⟨he_dring_Center, enters_dring_Center⟩ all_nil)
theorem p_dring_Norm_ok (he_dring_Center : SigOk Go.Proofs.Try.prog 41 ⟨[.xs (.int .i32) 256], [.xs (.int .i32) 256], g_dring_Center⟩) {g : Ds [.xs (.int .i32) 256] → Option (Rs [.int .i32])} (hg : ∀ x r, g x = some r → ∃ N, p_dring_Norm N x = some r) : SigOk Go.Proofs.Try.prog 19 ⟨[.xs (.int .i32) 256], [.int .i32], g⟩ :=
  fun_of (E := p_dring_Norm_E) (H := p_dring_Norm_H) (L := fun N => p_dring_Norm_l3_L N) (c := p_dring_Norm_c) (ks := p_dring_Norm_ks) (rs := p_dring_Norm_rs) (F := p_dring_Norm) (p_dring_Norm_Eok he_dring_Center) mix Go.Proofs.Try.func19 (by kernel_rfl) (fun N => p_dring_Norm_l3_ok N) p_dring_Norm_eq hg

/-! livery/liveryref15.size -/
noncomputable def p_ref15_size_E : AE := AE.of [] []
noncomputable def p_ref15_size_H : Hints := [(3000000, [2])]
noncomputable def p_ref15_size_c : Code := (Go.Proofs.Try.f68).body.getD .skip
abbrev p_ref15_size_ks : List Kd := [.int .i32]
abbrev p_ref15_size_rs : List Kd := [.int .i32]
noncomputable def p_ref15_size (N : Nat) (x : Int × Unit) : Option (Int) :=
  if (x.1 < (0:Int)) then
    some (IntKind.i32.wrap (0 - x.1))
  else
    some x.1
theorem p_ref15_size_eq (N : Nat) (x : Ds [.int .i32]) : funL p_ref15_size_E p_ref15_size_H (LT.nil) N Go.Proofs.Try.f68 p_ref15_size_c [.int .i32] [.int .i32] x = p_ref15_size N x := by kernel_rfl
theorem p_ref15_size_Eok : p_ref15_size_E.Ok Go.Proofs.Try.prog := AE.of_ok all_nil all_nil
theorem p_ref15_size_ok {g : Ds [.int .i32] → Option (Rs [.int .i32])} (hg : ∀ x r, g x = some r → ∃ N, p_ref15_size N x = some r) : SigOk Go.Proofs.Try.prog 68 ⟨[.int .i32], [.int .i32], g⟩ :=
  fun_of (E := p_ref15_size_E) (H := p_ref15_size_H) (L := fun N => LT.nil) (c := p_ref15_size_c) (ks := p_ref15_size_ks) (rs := p_ref15_size_rs) (F := p_ref15_size) (p_ref15_size_Eok) mix Go.Proofs.Try.func68 (by kernel_rfl) (fun N => OkAll.nil) p_ref15_size_eq hg

/-! livery/liveryref15.Norm -/
noncomputable def p_ref15_Norm_E : AE := AE.of [(21, ty21), (23, ty23)] [(42, ⟨[.xs (.int .i32) 256], [.xs (.int .i32) 256], g_ref15_Center⟩), (68, ⟨[.int .i32], [.int .i32], g_ref15_size⟩)]
noncomputable def p_ref15_Norm_H : Hints := [(4, [1, 3, 7]), (2000000, [3]), (2000001, [1, 3, 7]), (3000000, [2])]
noncomputable def p_ref15_Norm_c : Code := (Go.Proofs.Try.f43).body.getD .skip
noncomputable def p_ref15_Norm_l4_S : Shape where
  h := { tmps := [.any, .sc (.ptr 0 0 false), .any, .sc (.int .i32), .any, .any, .any, .sc (.int .i64), .any, .any, .any, .any, .any, .any, .any, .any, .any, .any, .any, .any, .any, .any], mem := [.live [.xs (.int .i32) (some 256)] (.own)] }
  ks := [.int, .int, .xs]
  st := fun x => { tmps := [.one .any, .one (.sc (.ptr 0 0 none)), .one .any, .one (.sc (.int .i32 x.1)), .one .any, .one .any, .one .any, .one (.sc (.int .i64 x.2.1)), .one .any, .one .any, .one .any, .one .any, .one .any, .one .any, .one .any, .one .any, .one .any, .one .any, .one .any, .one .any, .one .any, .one .any], mem := [.live { segs := [.xs (.int .i32) 256 x.2.2.1], own := .own }] }
noncomputable def p_ref15_Norm_l4_F (N : Nat) (β : Type) (x : (Int × Int × List Int × Unit)) (kn : (Int × Int × List Int × Unit) → Option β) (ke : ((Int × Unit)) → Option β) : Option β :=
  if (x.2.1 < (256:Int)) then
    if 0 ≤ x.2.1 then (
    if x.2.1 < 256 then (
    if (x.2.1.toNat) < 256 then (
    (g_ref15_size ((List.getD x.2.2.1 (x.2.1.toNat) 0), ())).bind fun r2 => (
    if (r2 > x.1) then
      if 0 ≤ x.2.1 then (
      if x.2.1 < 256 then (
      if (x.2.1.toNat) < 256 then (
      (g_ref15_size ((List.getD x.2.2.1 (x.2.1.toNat) 0), ())).bind fun r3 => (
      kn (r3, (IntKind.i64.wrap (x.2.1 + (1:Int))), x.2.2.1, ()))) else none) else none) else none
    else
      kn (x.1, (IntKind.i64.wrap (x.2.1 + (1:Int))), x.2.2.1, ()))) else none) else none) else none
  else
    ke (x.1, ())
noncomputable def p_ref15_Norm_l4_go : Go' ((Int × Unit)) := fun y K => K (.exit 0) { tmps := [.one .any, .one .any, .one .any, .one (.sc (.int .i32 y.1)), .one .any, .one .any, .one .any, .one .any, .one .any, .one .any, .one .any, .one .any, .one .any, .one .any, .one .any, .one .any, .one .any, .one .any, .one .any, .one .any, .one .any, .one .any], mem := [] }
noncomputable def p_ref15_Norm_l4_L (N : Nat) : LT := upd (LT.nil) 4 (loopE p_ref15_Norm_l4_S N (p_ref15_Norm_l4_F N) p_ref15_Norm_l4_go)
theorem p_ref15_Norm_l4_ok (N : Nat) : OkAll p_ref15_Norm_E p_ref15_Norm_H N (p_ref15_Norm_l4_L N) (subs p_ref15_Norm_c) :=
  addLoop (c := theLoop 4 p_ref15_Norm_c) (OkAll.nil) (by kernel_rfl) (fun x => by kernel_rfl) (fun β x kn ke => by kernel_rfl)
abbrev p_ref15_Norm_ks : List Kd := [.xs (.int .i32) 256]
abbrev p_ref15_Norm_rs : List Kd := [.int .i32]
noncomputable def p_ref15_Norm (N : Nat) (x : List Int × Unit) : Option (Int) :=
  (g_ref15_Center (x.1, ())).bind fun r1 => (
  iter (p_ref15_Norm_l4_F N) N ((0:Int), (0:Int), r1, ()) fun y4 => (
  some y4.1))
theorem p_ref15_Norm_eq (N : Nat) (x : Ds [.xs (.int .i32) 256]) : funL p_ref15_Norm_E p_ref15_Norm_H (p_ref15_Norm_l4_L N) N Go.Proofs.Try.f43 p_ref15_Norm_c [.xs (.int .i32) 256] [.int .i32] x = p_ref15_Norm N x := by kernel_rfl
theorem p_ref15_Norm_Eok (he_ref15_Center : SigOk Go.Proofs.Try.prog 42 ⟨[.xs (.int .i32) 256], [.xs (.int .i32) 256], g_ref15_Center⟩) (he_ref15_size : SigOk Go.Proofs.Try.prog 68 ⟨[.int .i32], [.int .i32], g_ref15_size⟩) : p_ref15_Norm_E.Ok Go.Proofs.Try.prog := AE.of_ok (all_cons ty21_ok (all_cons ty23_ok all_nil)) (all_cons ⟨he_ref15_Center, enters_ref15_Center⟩ (all_cons ⟨he_ref15_size, enters_ref15_size⟩ all_nil))
theorem p_ref15_Norm_ok (he_ref15_Center : SigOk Go.Proofs.Try.prog 42 ⟨[.xs (.int .i32) 256], [.xs (.int .i32) 256], g_ref15_Center⟩) (he_ref15_size : SigOk Go.Proofs.Try.prog 68 ⟨[.int .i32], [.int .i32], g_ref15_size⟩) {g : Ds [.xs (.int .i32) 256] → Option (Rs [.int .i32])} (hg : ∀ x r, g x = some r → ∃ N, p_ref15_Norm N x = some r) : SigOk Go.Proofs.Try.prog 43 ⟨[.xs (.int .i32) 256], [.int .i32], g⟩ :=
  fun_of (E := p_ref15_Norm_E) (H := p_ref15_Norm_H) (L := fun N => p_ref15_Norm_l4_L N) (c := p_ref15_Norm_c) (ks := p_ref15_Norm_ks) (rs := p_ref15_Norm_rs) (F := p_ref15_Norm) (p_ref15_Norm_Eok he_ref15_Center he_ref15_size) mix Go.Proofs.Try.func43 (by kernel_rfl) (fun N => p_ref15_Norm_l4_ok N) p_ref15_Norm_eq hg

/-! livery/dring.Add -/
noncomputable def p_dring_Add_E : AE := AE.of [(2, ty2), (21, ty21), (23, ty23)] [(59, ⟨[.int .i64], [.int .i32], g_dring_below⟩)]
noncomputable def p_dring_Add_H : Hints := [(2, [2, 3, 4, 6]), (2000000, [2, 4]), (2000001, [2, 3, 4, 6]), (3000000, [4])]
noncomputable def p_dring_Add_c : Code := (Go.Proofs.Try.f24).body.getD .skip
noncomputable def p_dring_Add_l2_S : Shape where
  h := { tmps := [.any, .any, .sc (.ptr 0 0 false), .sc (.ptr 1 0 false), .sc (.ptr 2 0 false), .any, .sc (.int .i64), .any, .any, .any, .any, .any, .any, .any, .any, .any, .any, .any, .any, .any, .any, .any, .any], mem := [.live [.xs (.int .i32) (some 256)] (.own), .live [.xs (.int .i32) (some 256)] (.own), .live [.xs (.int .i32) (some 256)] (.own)] }
  ks := [.int, .xs, .xs, .xs]
  st := fun x => { tmps := [.one .any, .one .any, .one (.sc (.ptr 0 0 none)), .one (.sc (.ptr 1 0 none)), .one (.sc (.ptr 2 0 none)), .one .any, .one (.sc (.int .i64 x.1)), .one .any, .one .any, .one .any, .one .any, .one .any, .one .any, .one .any, .one .any, .one .any, .one .any, .one .any, .one .any, .one .any, .one .any, .one .any, .one .any], mem := [.live { segs := [.xs (.int .i32) 256 x.2.1], own := .own }, .live { segs := [.xs (.int .i32) 256 x.2.2.1], own := .own }, .live { segs := [.xs (.int .i32) 256 x.2.2.2.1], own := .own }] }
noncomputable def p_dring_Add_l2_F (N : Nat) (β : Type) (x : (Int × List Int × List Int × List Int × Unit)) (kn : (Int × List Int × List Int × List Int × Unit) → Option β) (ke : ((List Int × List Int × Unit)) → Option β) : Option β :=
  if (x.1 < (256:Int)) then
    if 0 ≤ x.1 then (
    if x.1 < 256 then (
    if (x.1.toNat) < 256 then (
    if 0 ≤ x.1 then (
    if x.1 < 256 then (
    if (x.1.toNat) < 256 then (
    (g_dring_below ((IntKind.i64.wrap ((IntKind.i64.wrap (List.getD x.2.1 (x.1.toNat) 0)) + (IntKind.i64.wrap (List.getD x.2.2.1 (x.1.toNat) 0)))), ())).bind fun r1 => (
    if 0 ≤ x.1 then (
    if x.1 < 256 then (
    if (x.1.toNat) < 256 then (
    kn ((IntKind.i64.wrap (x.1 + (1:Int))), (List.set x.2.1 (x.1.toNat) r1), x.2.2.1, x.2.2.2.1, ())) else none) else none) else none)) else none) else none) else none) else none) else none) else none
  else
    ke (x.2.1, x.2.2.2.1, ())
noncomputable def p_dring_Add_l2_go : Go' ((List Int × List Int × Unit)) := fun y K => K (.exit 0) { tmps := [.one .any, .one .any, .one (.sc (.ptr 0 0 none)), .one .any, .one (.sc (.ptr 1 0 none)), .one .any, .one .any, .one .any, .one .any, .one .any, .one .any, .one .any, .one .any, .one .any, .one .any, .one .any, .one .any, .one .any, .one .any, .one .any, .one .any, .one .any, .one .any], mem := [.live { segs := [.xs (.int .i32) 256 y.1], own := .own }, .live { segs := [.xs (.int .i32) 256 y.2.1], own := .own }] }
noncomputable def p_dring_Add_l2_L (N : Nat) : LT := upd (LT.nil) 2 (loopE p_dring_Add_l2_S N (p_dring_Add_l2_F N) p_dring_Add_l2_go)
theorem p_dring_Add_l2_ok (N : Nat) : OkAll p_dring_Add_E p_dring_Add_H N (p_dring_Add_l2_L N) (subs p_dring_Add_c) :=
  addLoop (c := theLoop 2 p_dring_Add_c) (OkAll.nil) (by kernel_rfl) (fun x => by kernel_rfl) (fun β x kn ke => by kernel_rfl)
abbrev p_dring_Add_ks : List Kd := [.xs (.int .i32) 256, .xs (.int .i32) 256]
abbrev p_dring_Add_rs : List Kd := [.xs (.int .i32) 256]
noncomputable def p_dring_Add (N : Nat) (x : List Int × List Int × Unit) : Option (List Int) :=
  iter (p_dring_Add_l2_F N) N ((0:Int), x.1, x.2.1, (List.replicate 256 0), ()) fun y2 => (
  some y2.1)
theorem p_dring_Add_eq (N : Nat) (x : Ds [.xs (.int .i32) 256, .xs (.int .i32) 256]) : funL p_dring_Add_E p_dring_Add_H (p_dring_Add_l2_L N) N Go.Proofs.Try.f24 p_dring_Add_c [.xs (.int .i32) 256, .xs (.int .i32) 256] [.xs (.int .i32) 256] x = p_dring_Add N x := by kernel_rfl
theorem p_dring_Add_Eok (he_dring_below : SigOk Go.Proofs.Try.prog 59 ⟨[.int .i64], [.int .i32], g_dring_below⟩) : p_dring_Add_E.Ok Go.Proofs.Try.prog := AE.of_ok (all_cons ty2_ok (all_cons ty21_ok (all_cons ty23_ok all_nil))) (all_cons ⟨he_dring_below, enters_dring_below⟩ all_nil)
theorem p_dring_Add_ok (he_dring_below : SigOk Go.Proofs.Try.prog 59 ⟨[.int .i64], [.int .i32], g_dring_below⟩) {g : Ds [.xs (.int .i32) 256, .xs (.int .i32) 256] → Option (Rs [.xs (.int .i32) 256])} (hg : ∀ x r, g x = some r → ∃ N, p_dring_Add N x = some r) : SigOk Go.Proofs.Try.prog 24 ⟨[.xs (.int .i32) 256, .xs (.int .i32) 256], [.xs (.int .i32) 256], g⟩ :=
  fun_of (E := p_dring_Add_E) (H := p_dring_Add_H) (L := fun N => p_dring_Add_l2_L N) (c := p_dring_Add_c) (ks := p_dring_Add_ks) (rs := p_dring_Add_rs) (F := p_dring_Add) (p_dring_Add_Eok he_dring_below) mix Go.Proofs.Try.func24 (by kernel_rfl) (fun N => p_dring_Add_l2_ok N) p_dring_Add_eq hg

/-! livery/liveryref15.Add -/
noncomputable def p_ref15_Add_E : AE := AE.of [(2, ty2), (21, ty21), (23, ty23)] [(66, ⟨[.int .i64], [.int .i64], g_ref15_mod⟩)]
noncomputable def p_ref15_Add_H : Hints := [(2, [2, 3, 4, 6]), (2000000, [2, 4]), (2000001, [2, 3, 4, 6]), (3000000, [4])]
noncomputable def p_ref15_Add_c : Code := (Go.Proofs.Try.f44).body.getD .skip
noncomputable def p_ref15_Add_l2_S : Shape where
  h := { tmps := [.any, .any, .sc (.ptr 0 0 false), .sc (.ptr 1 0 false), .sc (.ptr 2 0 false), .any, .sc (.int .i64), .any, .any, .any, .any, .any, .any, .any, .any, .any, .any, .any, .any, .any, .any, .any, .any, .any], mem := [.live [.xs (.int .i32) (some 256)] (.own), .live [.xs (.int .i32) (some 256)] (.own), .live [.xs (.int .i32) (some 256)] (.own)] }
  ks := [.int, .xs, .xs, .xs]
  st := fun x => { tmps := [.one .any, .one .any, .one (.sc (.ptr 0 0 none)), .one (.sc (.ptr 1 0 none)), .one (.sc (.ptr 2 0 none)), .one .any, .one (.sc (.int .i64 x.1)), .one .any, .one .any, .one .any, .one .any, .one .any, .one .any, .one .any, .one .any, .one .any, .one .any, .one .any, .one .any, .one .any, .one .any, .one .any, .one .any, .one .any], mem := [.live { segs := [.xs (.int .i32) 256 x.2.1], own := .own }, .live { segs := [.xs (.int .i32) 256 x.2.2.1], own := .own }, .live { segs := [.xs (.int .i32) 256 x.2.2.2.1], own := .own }] }
noncomputable def p_ref15_Add_l2_F (N : Nat) (β : Type) (x : (Int × List Int × List Int × List Int × Unit)) (kn : (Int × List Int × List Int × List Int × Unit) → Option β) (ke : ((List Int × List Int × Unit)) → Option β) : Option β :=
  if (x.1 < (256:Int)) then
    if 0 ≤ x.1 then (
    if x.1 < 256 then (
    if (x.1.toNat) < 256 then (
    if 0 ≤ x.1 then (
    if x.1 < 256 then (
    if (x.1.toNat) < 256 then (
    (g_ref15_mod ((IntKind.i64.wrap ((IntKind.i64.wrap (List.getD x.2.1 (x.1.toNat) 0)) + (IntKind.i64.wrap (List.getD x.2.2.1 (x.1.toNat) 0)))), ())).bind fun r1 => (
    if 0 ≤ x.1 then (
    if x.1 < 256 then (
    if (x.1.toNat) < 256 then (
    kn ((IntKind.i64.wrap (x.1 + (1:Int))), (List.set x.2.1 (x.1.toNat) (IntKind.i32.wrap r1)), x.2.2.1, x.2.2.2.1, ())) else none) else none) else none)) else none) else none) else none) else none) else none) else none
  else
    ke (x.2.1, x.2.2.2.1, ())
noncomputable def p_ref15_Add_l2_go : Go' ((List Int × List Int × Unit)) := fun y K => K (.exit 0) { tmps := [.one .any, .one .any, .one (.sc (.ptr 0 0 none)), .one .any, .one (.sc (.ptr 1 0 none)), .one .any, .one .any, .one .any, .one .any, .one .any, .one .any, .one .any, .one .any, .one .any, .one .any, .one .any, .one .any, .one .any, .one .any, .one .any, .one .any, .one .any, .one .any, .one .any], mem := [.live { segs := [.xs (.int .i32) 256 y.1], own := .own }, .live { segs := [.xs (.int .i32) 256 y.2.1], own := .own }] }
noncomputable def p_ref15_Add_l2_L (N : Nat) : LT := upd (LT.nil) 2 (loopE p_ref15_Add_l2_S N (p_ref15_Add_l2_F N) p_ref15_Add_l2_go)
theorem p_ref15_Add_l2_ok (N : Nat) : OkAll p_ref15_Add_E p_ref15_Add_H N (p_ref15_Add_l2_L N) (subs p_ref15_Add_c) :=
  addLoop (c := theLoop 2 p_ref15_Add_c) (OkAll.nil) (by kernel_rfl) (fun x => by kernel_rfl) (fun β x kn ke => by kernel_rfl)
abbrev p_ref15_Add_ks : List Kd := [.xs (.int .i32) 256, .xs (.int .i32) 256]
abbrev p_ref15_Add_rs : List Kd := [.xs (.int .i32) 256]
noncomputable def p_ref15_Add (N : Nat) (x : List Int × List Int × Unit) : Option (List Int) :=
  iter (p_ref15_Add_l2_F N) N ((0:Int), x.1, x.2.1, (List.replicate 256 0), ()) fun y2 => (
  some y2.1)
theorem p_ref15_Add_eq (N : Nat) (x : Ds [.xs (.int .i32) 256, .xs (.int .i32) 256]) : funL p_ref15_Add_E p_ref15_Add_H (p_ref15_Add_l2_L N) N Go.Proofs.Try.f44 p_ref15_Add_c [.xs (.int .i32) 256, .xs (.int .i32) 256] [.xs (.int .i32) 256] x = p_ref15_Add N x := by kernel_rfl
theorem p_ref15_Add_Eok (he_ref15_mod : SigOk Go.Proofs.Try.prog 66 ⟨[.int .i64], [.int .i64], g_ref15_mod⟩) : p_ref15_Add_E.Ok Go.Proofs.Try.prog := AE.of_ok (all_cons ty2_ok (all_cons ty21_ok (all_cons ty23_ok all_nil))) (all_cons ⟨he_ref15_mod, enters_ref15_mod⟩ all_nil)
theorem p_ref15_Add_ok (he_ref15_mod : SigOk Go.Proofs.Try.prog 66 ⟨[.int .i64], [.int .i64], g_ref15_mod⟩) {g : Ds [.xs (.int .i32) 256, .xs (.int .i32) 256] → Option (Rs [.xs (.int .i32) 256])} (hg : ∀ x r, g x = some r → ∃ N, p_ref15_Add N x = some r) : SigOk Go.Proofs.Try.prog 44 ⟨[.xs (.int .i32) 256, .xs (.int .i32) 256], [.xs (.int .i32) 256], g⟩ :=
  fun_of (E := p_ref15_Add_E) (H := p_ref15_Add_H) (L := fun N => p_ref15_Add_l2_L N) (c := p_ref15_Add_c) (ks := p_ref15_Add_ks) (rs := p_ref15_Add_rs) (F := p_ref15_Add) (p_ref15_Add_Eok he_ref15_mod) mix Go.Proofs.Try.func44 (by kernel_rfl) (fun N => p_ref15_Add_l2_ok N) p_ref15_Add_eq hg

/-! livery/dring.Sub -/
noncomputable def p_dring_Sub_E : AE := AE.of [(2, ty2), (21, ty21), (23, ty23)] [(59, ⟨[.int .i64], [.int .i32], g_dring_below⟩)]
noncomputable def p_dring_Sub_H : Hints := [(2, [2, 3, 4, 6]), (2000000, [2, 4]), (2000001, [2, 3, 4, 6]), (3000000, [4])]
noncomputable def p_dring_Sub_c : Code := (Go.Proofs.Try.f39).body.getD .skip
noncomputable def p_dring_Sub_l2_S : Shape where
  h := { tmps := [.any, .any, .sc (.ptr 0 0 false), .sc (.ptr 1 0 false), .sc (.ptr 2 0 false), .any, .sc (.int .i64), .any, .any, .any, .any, .any, .any, .any, .any, .any, .any, .any, .any, .any, .any, .any, .any], mem := [.live [.xs (.int .i32) (some 256)] (.own), .live [.xs (.int .i32) (some 256)] (.own), .live [.xs (.int .i32) (some 256)] (.own)] }
  ks := [.int, .xs, .xs, .xs]
  st := fun x => { tmps := [.one .any, .one .any, .one (.sc (.ptr 0 0 none)), .one (.sc (.ptr 1 0 none)), .one (.sc (.ptr 2 0 none)), .one .any, .one (.sc (.int .i64 x.1)), .one .any, .one .any, .one .any, .one .any, .one .any, .one .any, .one .any, .one .any, .one .any, .one .any, .one .any, .one .any, .one .any, .one .any, .one .any, .one .any], mem := [.live { segs := [.xs (.int .i32) 256 x.2.1], own := .own }, .live { segs := [.xs (.int .i32) 256 x.2.2.1], own := .own }, .live { segs := [.xs (.int .i32) 256 x.2.2.2.1], own := .own }] }
noncomputable def p_dring_Sub_l2_F (N : Nat) (β : Type) (x : (Int × List Int × List Int × List Int × Unit)) (kn : (Int × List Int × List Int × List Int × Unit) → Option β) (ke : ((List Int × List Int × Unit)) → Option β) : Option β :=
  if (x.1 < (256:Int)) then
    if 0 ≤ x.1 then (
    if x.1 < 256 then (
    if (x.1.toNat) < 256 then (
    if 0 ≤ x.1 then (
    if x.1 < 256 then (
    if (x.1.toNat) < 256 then (
    (g_dring_below ((IntKind.i64.wrap ((IntKind.i64.wrap (List.getD x.2.1 (x.1.toNat) 0)) - (IntKind.i64.wrap (List.getD x.2.2.1 (x.1.toNat) 0)))), ())).bind fun r1 => (
    if 0 ≤ x.1 then (
    if x.1 < 256 then (
    if (x.1.toNat) < 256 then (
    kn ((IntKind.i64.wrap (x.1 + (1:Int))), (List.set x.2.1 (x.1.toNat) r1), x.2.2.1, x.2.2.2.1, ())) else none) else none) else none)) else none) else none) else none) else none) else none) else none
  else
    ke (x.2.1, x.2.2.2.1, ())
noncomputable def p_dring_Sub_l2_go : Go' ((List Int × List Int × Unit)) := fun y K => K (.exit 0) { tmps := [.one .any, .one .any, .one (.sc (.ptr 0 0 none)), .one .any, .one (.sc (.ptr 1 0 none)), .one .any, .one .any, .one .any, .one .any, .one .any, .one .any, .one .any, .one .any, .one .any, .one .any, .one .any, .one .any, .one .any, .one .any, .one .any, .one .any, .one .any, .one .any], mem := [.live { segs := [.xs (.int .i32) 256 y.1], own := .own }, .live { segs := [.xs (.int .i32) 256 y.2.1], own := .own }] }
noncomputable def p_dring_Sub_l2_L (N : Nat) : LT := upd (LT.nil) 2 (loopE p_dring_Sub_l2_S N (p_dring_Sub_l2_F N) p_dring_Sub_l2_go)
theorem p_dring_Sub_l2_ok (N : Nat) : OkAll p_dring_Sub_E p_dring_Sub_H N (p_dring_Sub_l2_L N) (subs p_dring_Sub_c) :=
  addLoop (c := theLoop 2 p_dring_Sub_c) (OkAll.nil) (by kernel_rfl) (fun x => by kernel_rfl) (fun β x kn ke => by kernel_rfl)
abbrev p_dring_Sub_ks : List Kd := [.xs (.int .i32) 256, .xs (.int .i32) 256]
abbrev p_dring_Sub_rs : List Kd := [.xs (.int .i32) 256]
noncomputable def p_dring_Sub (N : Nat) (x : List Int × List Int × Unit) : Option (List Int) :=
  iter (p_dring_Sub_l2_F N) N ((0:Int), x.1, x.2.1, (List.replicate 256 0), ()) fun y2 => (
  some y2.1)
theorem p_dring_Sub_eq (N : Nat) (x : Ds [.xs (.int .i32) 256, .xs (.int .i32) 256]) : funL p_dring_Sub_E p_dring_Sub_H (p_dring_Sub_l2_L N) N Go.Proofs.Try.f39 p_dring_Sub_c [.xs (.int .i32) 256, .xs (.int .i32) 256] [.xs (.int .i32) 256] x = p_dring_Sub N x := by kernel_rfl
theorem p_dring_Sub_Eok (he_dring_below : SigOk Go.Proofs.Try.prog 59 ⟨[.int .i64], [.int .i32], g_dring_below⟩) : p_dring_Sub_E.Ok Go.Proofs.Try.prog := AE.of_ok (all_cons ty2_ok (all_cons ty21_ok (all_cons ty23_ok all_nil))) (all_cons ⟨he_dring_below, enters_dring_below⟩ all_nil)
theorem p_dring_Sub_ok (he_dring_below : SigOk Go.Proofs.Try.prog 59 ⟨[.int .i64], [.int .i32], g_dring_below⟩) {g : Ds [.xs (.int .i32) 256, .xs (.int .i32) 256] → Option (Rs [.xs (.int .i32) 256])} (hg : ∀ x r, g x = some r → ∃ N, p_dring_Sub N x = some r) : SigOk Go.Proofs.Try.prog 39 ⟨[.xs (.int .i32) 256, .xs (.int .i32) 256], [.xs (.int .i32) 256], g⟩ :=
  fun_of (E := p_dring_Sub_E) (H := p_dring_Sub_H) (L := fun N => p_dring_Sub_l2_L N) (c := p_dring_Sub_c) (ks := p_dring_Sub_ks) (rs := p_dring_Sub_rs) (F := p_dring_Sub) (p_dring_Sub_Eok he_dring_below) mix Go.Proofs.Try.func39 (by kernel_rfl) (fun N => p_dring_Sub_l2_ok N) p_dring_Sub_eq hg

/-! livery/liveryref15.Sub -/
noncomputable def p_ref15_Sub_E : AE := AE.of [(2, ty2), (21, ty21), (23, ty23)] [(66, ⟨[.int .i64], [.int .i64], g_ref15_mod⟩)]
noncomputable def p_ref15_Sub_H : Hints := [(2, [2, 3, 4, 6]), (2000000, [2, 4]), (2000001, [2, 3, 4, 6]), (3000000, [4])]
noncomputable def p_ref15_Sub_c : Code := (Go.Proofs.Try.f45).body.getD .skip
noncomputable def p_ref15_Sub_l2_S : Shape where
  h := { tmps := [.any, .any, .sc (.ptr 0 0 false), .sc (.ptr 1 0 false), .sc (.ptr 2 0 false), .any, .sc (.int .i64), .any, .any, .any, .any, .any, .any, .any, .any, .any, .any, .any, .any, .any, .any, .any, .any, .any], mem := [.live [.xs (.int .i32) (some 256)] (.own), .live [.xs (.int .i32) (some 256)] (.own), .live [.xs (.int .i32) (some 256)] (.own)] }
  ks := [.int, .xs, .xs, .xs]
  st := fun x => { tmps := [.one .any, .one .any, .one (.sc (.ptr 0 0 none)), .one (.sc (.ptr 1 0 none)), .one (.sc (.ptr 2 0 none)), .one .any, .one (.sc (.int .i64 x.1)), .one .any, .one .any, .one .any, .one .any, .one .any, .one .any, .one .any, .one .any, .one .any, .one .any, .one .any, .one .any, .one .any, .one .any, .one .any, .one .any, .one .any], mem := [.live { segs := [.xs (.int .i32) 256 x.2.1], own := .own }, .live { segs := [.xs (.int .i32) 256 x.2.2.1], own := .own }, .live { segs := [.xs (.int .i32) 256 x.2.2.2.1], own := .own }] }
noncomputable def p_ref15_Sub_l2_F (N : Nat) (β : Type) (x : (Int × List Int × List Int × List Int × Unit)) (kn : (Int × List Int × List Int × List Int × Unit) → Option β) (ke : ((List Int × List Int × Unit)) → Option β) : Option β :=
  if (x.1 < (256:Int)) then
    if 0 ≤ x.1 then (
    if x.1 < 256 then (
    if (x.1.toNat) < 256 then (
    if 0 ≤ x.1 then (
    if x.1 < 256 then (
    if (x.1.toNat) < 256 then (
    (g_ref15_mod ((IntKind.i64.wrap ((IntKind.i64.wrap (List.getD x.2.1 (x.1.toNat) 0)) - (IntKind.i64.wrap (List.getD x.2.2.1 (x.1.toNat) 0)))), ())).bind fun r1 => (
    if 0 ≤ x.1 then (
    if x.1 < 256 then (
    if (x.1.toNat) < 256 then (
    kn ((IntKind.i64.wrap (x.1 + (1:Int))), (List.set x.2.1 (x.1.toNat) (IntKind.i32.wrap r1)), x.2.2.1, x.2.2.2.1, ())) else none) else none) else none)) else none) else none) else none) else none) else none) else none
  else
    ke (x.2.1, x.2.2.2.1, ())
noncomputable def p_ref15_Sub_l2_go : Go' ((List Int × List Int × Unit)) := fun y K => K (.exit 0) { tmps := [.one .any, .one .any, .one (.sc (.ptr 0 0 none)), .one .any, .one (.sc (.ptr 1 0 none)), .one .any, .one .any, .one .any, .one .any, .one .any, .one .any, .one .any, .one .any, .one .any, .one .any, .one .any, .one .any, .one .any, .one .any, .one .any, .one .any, .one .any, .one .any, .one .any], mem := [.live { segs := [.xs (.int .i32) 256 y.1], own := .own }, .live { segs := [.xs (.int .i32) 256 y.2.1], own := .own }] }
noncomputable def p_ref15_Sub_l2_L (N : Nat) : LT := upd (LT.nil) 2 (loopE p_ref15_Sub_l2_S N (p_ref15_Sub_l2_F N) p_ref15_Sub_l2_go)
theorem p_ref15_Sub_l2_ok (N : Nat) : OkAll p_ref15_Sub_E p_ref15_Sub_H N (p_ref15_Sub_l2_L N) (subs p_ref15_Sub_c) :=
  addLoop (c := theLoop 2 p_ref15_Sub_c) (OkAll.nil) (by kernel_rfl) (fun x => by kernel_rfl) (fun β x kn ke => by kernel_rfl)
abbrev p_ref15_Sub_ks : List Kd := [.xs (.int .i32) 256, .xs (.int .i32) 256]
abbrev p_ref15_Sub_rs : List Kd := [.xs (.int .i32) 256]
noncomputable def p_ref15_Sub (N : Nat) (x : List Int × List Int × Unit) : Option (List Int) :=
  iter (p_ref15_Sub_l2_F N) N ((0:Int), x.1, x.2.1, (List.replicate 256 0), ()) fun y2 => (
  some y2.1)
theorem p_ref15_Sub_eq (N : Nat) (x : Ds [.xs (.int .i32) 256, .xs (.int .i32) 256]) : funL p_ref15_Sub_E p_ref15_Sub_H (p_ref15_Sub_l2_L N) N Go.Proofs.Try.f45 p_ref15_Sub_c [.xs (.int .i32) 256, .xs (.int .i32) 256] [.xs (.int .i32) 256] x = p_ref15_Sub N x := by kernel_rfl
theorem p_ref15_Sub_Eok (he_ref15_mod : SigOk Go.Proofs.Try.prog 66 ⟨[.int .i64], [.int .i64], g_ref15_mod⟩) : p_ref15_Sub_E.Ok Go.Proofs.Try.prog := AE.of_ok (all_cons ty2_ok (all_cons ty21_ok (all_cons ty23_ok all_nil))) (all_cons ⟨he_ref15_mod, enters_ref15_mod⟩ all_nil)
theorem p_ref15_Sub_ok (he_ref15_mod : SigOk Go.Proofs.Try.prog 66 ⟨[.int .i64], [.int .i64], g_ref15_mod⟩) {g : Ds [.xs (.int .i32) 256, .xs (.int .i32) 256] → Option (Rs [.xs (.int .i32) 256])} (hg : ∀ x r, g x = some r → ∃ N, p_ref15_Sub N x = some r) : SigOk Go.Proofs.Try.prog 45 ⟨[.xs (.int .i32) 256, .xs (.int .i32) 256], [.xs (.int .i32) 256], g⟩ :=
  fun_of (E := p_ref15_Sub_E) (H := p_ref15_Sub_H) (L := fun N => p_ref15_Sub_l2_L N) (c := p_ref15_Sub_c) (ks := p_ref15_Sub_ks) (rs := p_ref15_Sub_rs) (F := p_ref15_Sub) (p_ref15_Sub_Eok he_ref15_mod) mix Go.Proofs.Try.func45 (by kernel_rfl) (fun N => p_ref15_Sub_l2_ok N) p_ref15_Sub_eq hg

/-! livery/dring.MakeHint -/
noncomputable def p_dring_MakeHint_E : AE := AE.of [(4, ty4), (21, ty21), (23, ty23), (31, ty31)] [(15, ⟨[.xs (.int .i32) 256], [.xs (.int .i32) 256, .xs (.int .i32) 256], g_dring_Decompose⟩), (24, ⟨[.xs (.int .i32) 256, .xs (.int .i32) 256], [.xs (.int .i32) 256], g_dring_Add⟩)]
noncomputable def p_dring_MakeHint_H : Hints := [(6, [4, 6, 7, 9, 11, 25]), (2000000, [4, 6, 11]), (2000001, [4, 6, 7, 9, 11, 25]), (3000000, [4, 5])]
noncomputable def p_dring_MakeHint_c : Code := (Go.Proofs.Try.f20).body.getD .skip
noncomputable def p_dring_MakeHint_l6_S : Shape where
  h := { tmps := [.any, .any, .any, .any, .sc (.ptr 0 0 false), .any, .sc (.ptr 1 0 false), .sc (.ptr 2 0 false), .any, .sc (.ptr 3 0 false), .any, .sc (.int .i64), .any, .any, .any, .any, .any, .any, .any, .any, .any, .any, .any, .any, .any, .sc (.int .i64), .any, .any, .any, .any, .any, .any, .any, .any, .any, .any, .any, .any, .any, .any, .any, .any, .any, .any, .any], mem := [.live [.xs .bool (some 256)] (.own), .live [.xs .bool (some 256)] (.own), .live [.xs (.int .i32) (some 256)] (.own), .live [.xs (.int .i32) (some 256)] (.own)] }
  ks := [.int, .int, .xs, .xs, .xs, .xs]
  st := fun x => { tmps := [.one .any, .one .any, .one .any, .one .any, .one (.sc (.ptr 0 0 none)), .one .any, .one (.sc (.ptr 1 0 none)), .one (.sc (.ptr 2 0 none)), .one .any, .one (.sc (.ptr 3 0 none)), .one .any, .one (.sc (.int .i64 x.1)), .one .any, .one .any, .one .any, .one .any, .one .any, .one .any, .one .any, .one .any, .one .any, .one .any, .one .any, .one .any, .one .any, .one (.sc (.int .i64 x.2.1)), .one .any, .one .any, .one .any, .one .any, .one .any, .one .any, .one .any, .one .any, .one .any, .one .any, .one .any, .one .any, .one .any, .one .any, .one .any, .one .any, .one .any, .one .any, .one .any], mem := [.live { segs := [.xs .bool 256 x.2.2.1], own := .own }, .live { segs := [.xs .bool 256 x.2.2.2.1], own := .own }, .live { segs := [.xs (.int .i32) 256 x.2.2.2.2.1], own := .own }, .live { segs := [.xs (.int .i32) 256 x.2.2.2.2.2.1], own := .own }] }
noncomputable def p_dring_MakeHint_l6_F (N : Nat) (β : Type) (x : (Int × Int × List Int × List Int × List Int × List Int × Unit)) (kn : (Int × Int × List Int × List Int × List Int × List Int × Unit) → Option β) (ke : ((Int × List Int × List Int × Unit)) → Option β) : Option β :=
  if (x.2.1 < (256:Int)) then
    if 0 ≤ x.2.1 then (
    if x.2.1 < 256 then (
    if (x.2.1.toNat) < 256 then (
    if 0 ≤ x.2.1 then (
    if x.2.1 < 256 then (
    if (x.2.1.toNat) < 256 then (
    if 0 ≤ x.2.1 then (
    if x.2.1 < 256 then (
    if (x.2.1.toNat) < 256 then (
    if 0 ≤ x.2.1 then (
    if x.2.1 < 256 then (
    if (x.2.1.toNat) < 256 then (
    if ((List.getD (List.set x.2.2.2.1 (x.2.1.toNat) (if ((List.getD x.2.2.2.2.1 (x.2.1.toNat) 0) ≠ (List.getD x.2.2.2.2.2.1 (x.2.1.toNat) 0)) then (1:Int) else 0)) (x.2.1.toNat) 0) ≠ 0) then
      kn ((IntKind.i64.wrap (x.1 + (1:Int))), (IntKind.i64.wrap (x.2.1 + (1:Int))), x.2.2.1, (List.set x.2.2.2.1 (x.2.1.toNat) (if ((List.getD x.2.2.2.2.1 (x.2.1.toNat) 0) ≠ (List.getD x.2.2.2.2.2.1 (x.2.1.toNat) 0)) then (1:Int) else 0)), x.2.2.2.2.1, x.2.2.2.2.2.1, ())
    else
      kn (x.1, (IntKind.i64.wrap (x.2.1 + (1:Int))), x.2.2.1, (List.set x.2.2.2.1 (x.2.1.toNat) (if ((List.getD x.2.2.2.2.1 (x.2.1.toNat) 0) ≠ (List.getD x.2.2.2.2.2.1 (x.2.1.toNat) 0)) then (1:Int) else 0)), x.2.2.2.2.1, x.2.2.2.2.2.1, ())) else none) else none) else none) else none) else none) else none) else none) else none) else none) else none) else none) else none
  else
    ke (x.1, x.2.2.1, x.2.2.2.1, ())
noncomputable def p_dring_MakeHint_l6_go : Go' ((Int × List Int × List Int × Unit)) := fun y K => K (.exit 0) { tmps := [.one .any, .one .any, .one .any, .one .any, .one (.sc (.ptr 0 0 none)), .one .any, .one (.sc (.ptr 1 0 none)), .one .any, .one .any, .one .any, .one .any, .one (.sc (.int .i64 y.1)), .one .any, .one .any, .one .any, .one .any, .one .any, .one .any, .one .any, .one .any, .one .any, .one .any, .one .any, .one .any, .one .any, .one .any, .one .any, .one .any, .one .any, .one .any, .one .any, .one .any, .one .any, .one .any, .one .any, .one .any, .one .any, .one .any, .one .any, .one .any, .one .any, .one .any, .one .any, .one .any, .one .any], mem := [.live { segs := [.xs .bool 256 y.2.1], own := .own }, .live { segs := [.xs .bool 256 y.2.2.1], own := .own }] }
noncomputable def p_dring_MakeHint_l6_L (N : Nat) : LT := upd (LT.nil) 6 (loopE p_dring_MakeHint_l6_S N (p_dring_MakeHint_l6_F N) p_dring_MakeHint_l6_go)
theorem p_dring_MakeHint_l6_ok (N : Nat) : OkAll p_dring_MakeHint_E p_dring_MakeHint_H N (p_dring_MakeHint_l6_L N) (subs p_dring_MakeHint_c) :=
  addLoop (c := theLoop 6 p_dring_MakeHint_c) (OkAll.nil) (by kernel_rfl) (fun x => by kernel_rfl) (fun β x kn ke => by kernel_rfl)
abbrev p_dring_MakeHint_ks : List Kd := [.xs (.int .i32) 256, .xs (.int .i32) 256]
abbrev p_dring_MakeHint_rs : List Kd := [.xs .bool 256, .int .i64]
noncomputable def p_dring_MakeHint (N : Nat) (x : List Int × List Int × Unit) : Option (List Int × Int) :=
  (g_dring_Decompose (x.2.1, ())).bind fun r1 => (
  (g_dring_Add (x.2.1, x.1, ())).bind fun r2 => (
  (g_dring_Decompose (r2, ())).bind fun r3 => (
  iter (p_dring_MakeHint_l6_F N) N ((0:Int), (0:Int), (List.replicate 256 0), (List.replicate 256 0), r1.1, r3.1, ()) fun y4 => (
  some (y4.2.2.1, y4.1)))))
theorem p_dring_MakeHint_eq (N : Nat) (x : Ds [.xs (.int .i32) 256, .xs (.int .i32) 256]) : funL p_dring_MakeHint_E p_dring_MakeHint_H (p_dring_MakeHint_l6_L N) N Go.Proofs.Try.f20 p_dring_MakeHint_c [.xs (.int .i32) 256, .xs (.int .i32) 256] [.xs .bool 256, .int .i64] x = p_dring_MakeHint N x := by kernel_rfl
theorem p_dring_MakeHint_Eok (he_dring_Decompose : SigOk Go.Proofs.Try.prog 15 ⟨[.xs (.int .i32) 256], [.xs (.int .i32) 256, .xs (.int .i32) 256], g_dring_Decompose⟩) (he_dring_Add : SigOk Go.Proofs.Try.prog 24 ⟨[.xs (.int .i32) 256, .xs (.int .i32) 256], [.xs (.int .i32) 256], g_dring_Add⟩) : p_dring_MakeHint_E.Ok Go.Proofs.Try.prog := AE.of_ok (all_cons ty4_ok (all_cons ty21_ok (all_cons ty23_ok (all_cons ty31_ok all_nil)))) (all_cons ⟨he_dring_Decompose, enters_dring_Decompose⟩ (all_cons ⟨he_dring_Add, enters_dring_Add⟩ all_nil))
theorem p_dring_MakeHint_ok (he_dring_Decompose : SigOk Go.Proofs.Try.prog 15 ⟨[.xs (.int .i32) 256], [.xs (.int .i32) 256, .xs (.int .i32) 256], g_dring_Decompose⟩) (he_dring_Add : SigOk Go.Proofs.Try.prog 24 ⟨[.xs (.int .i32) 256, .xs (.int .i32) 256], [.xs (.int .i32) 256], g_dring_Add⟩) {g : Ds [.xs (.int .i32) 256, .xs (.int .i32) 256] → Option (Rs [.xs .bool 256, .int .i64])} (hg : ∀ x r, g x = some r → ∃ N, p_dring_MakeHint N x = some r) : SigOk Go.Proofs.Try.prog 20 ⟨[.xs (.int .i32) 256, .xs (.int .i32) 256], [.xs .bool 256, .int .i64], g⟩ :=
  fun_of (E := p_dring_MakeHint_E) (H := p_dring_MakeHint_H) (L := fun N => p_dring_MakeHint_l6_L N) (c := p_dring_MakeHint_c) (ks := p_dring_MakeHint_ks) (rs := p_dring_MakeHint_rs) (F := p_dring_MakeHint) (p_dring_MakeHint_Eok he_dring_Decompose he_dring_Add) mix Go.Proofs.Try.func20 (by kernel_rfl) (fun N => p_dring_MakeHint_l6_ok N) p_dring_MakeHint_eq hg

/-! livery/liveryref15.MakeHint -/
noncomputable def p_ref15_MakeHint_E : AE := AE.of [(4, ty4), (21, ty21), (23, ty23), (31, ty31)] [(16, ⟨[.xs (.int .i32) 256], [.xs (.int .i32) 256, .xs (.int .i32) 256], g_ref15_Decompose⟩), (44, ⟨[.xs (.int .i32) 256, .xs (.int .i32) 256], [.xs (.int .i32) 256], g_ref15_Add⟩)]
noncomputable def p_ref15_MakeHint_H : Hints := [(6, [4, 6, 8, 10, 11, 25]), (2000000, [4, 10, 11]), (2000001, [4, 6, 8, 10, 11, 25]), (3000000, [4, 5])]
noncomputable def p_ref15_MakeHint_c : Code := (Go.Proofs.Try.f21).body.getD .skip
noncomputable def p_ref15_MakeHint_l6_S : Shape where
  h := { tmps := [.any, .any, .any, .any, .sc (.ptr 0 0 false), .any, .sc (.ptr 1 0 false), .any, .sc (.ptr 2 0 false), .any, .sc (.ptr 3 0 false), .sc (.int .i64), .any, .any, .any, .any, .any, .any, .any, .any, .any, .any, .any, .any, .any, .sc (.int .i64), .any, .any, .any, .any, .any, .any, .any, .any, .any, .any, .any, .any, .any, .any, .any, .any], mem := [.live [.xs .bool (some 256)] (.own), .live [.xs (.int .i32) (some 256)] (.own), .live [.xs (.int .i32) (some 256)] (.own), .live [.xs .bool (some 256)] (.own)] }
  ks := [.int, .int, .xs, .xs, .xs, .xs]
  st := fun x => { tmps := [.one .any, .one .any, .one .any, .one .any, .one (.sc (.ptr 0 0 none)), .one .any, .one (.sc (.ptr 1 0 none)), .one .any, .one (.sc (.ptr 2 0 none)), .one .any, .one (.sc (.ptr 3 0 none)), .one (.sc (.int .i64 x.1)), .one .any, .one .any, .one .any, .one .any, .one .any, .one .any, .one .any, .one .any, .one .any, .one .any, .one .any, .one .any, .one .any, .one (.sc (.int .i64 x.2.1)), .one .any, .one .any, .one .any, .one .any, .one .any, .one .any, .one .any, .one .any, .one .any, .one .any, .one .any, .one .any, .one .any, .one .any, .one .any, .one .any], mem := [.live { segs := [.xs .bool 256 x.2.2.1], own := .own }, .live { segs := [.xs (.int .i32) 256 x.2.2.2.1], own := .own }, .live { segs := [.xs (.int .i32) 256 x.2.2.2.2.1], own := .own }, .live { segs := [.xs .bool 256 x.2.2.2.2.2.1], own := .own }] }
noncomputable def p_ref15_MakeHint_l6_F (N : Nat) (β : Type) (x : (Int × Int × List Int × List Int × List Int × List Int × Unit)) (kn : (Int × Int × List Int × List Int × List Int × List Int × Unit) → Option β) (ke : ((Int × List Int × List Int × Unit)) → Option β) : Option β :=
  if (x.2.1 < (256:Int)) then
    if 0 ≤ x.2.1 then (
    if x.2.1 < 256 then (
    if (x.2.1.toNat) < 256 then (
    if 0 ≤ x.2.1 then (
    if x.2.1 < 256 then (
    if (x.2.1.toNat) < 256 then (
    if ((List.getD x.2.2.2.1 (x.2.1.toNat) 0) ≠ (List.getD x.2.2.2.2.1 (x.2.1.toNat) 0)) then
      if 0 ≤ x.2.1 then (
      if x.2.1 < 256 then (
      if (x.2.1.toNat) < 256 then (
      kn ((IntKind.i64.wrap (x.1 + (1:Int))), (IntKind.i64.wrap (x.2.1 + (1:Int))), x.2.2.1, x.2.2.2.1, x.2.2.2.2.1, (List.set x.2.2.2.2.2.1 (x.2.1.toNat) (1:Int)), ())) else none) else none) else none
    else
      kn (x.1, (IntKind.i64.wrap (x.2.1 + (1:Int))), x.2.2.1, x.2.2.2.1, x.2.2.2.2.1, x.2.2.2.2.2.1, ())) else none) else none) else none) else none) else none) else none
  else
    ke (x.1, x.2.2.1, x.2.2.2.2.2.1, ())
noncomputable def p_ref15_MakeHint_l6_go : Go' ((Int × List Int × List Int × Unit)) := fun y K => K (.exit 0) { tmps := [.one .any, .one .any, .one .any, .one .any, .one (.sc (.ptr 0 0 none)), .one .any, .one .any, .one .any, .one .any, .one .any, .one (.sc (.ptr 1 0 none)), .one (.sc (.int .i64 y.1)), .one .any, .one .any, .one .any, .one .any, .one .any, .one .any, .one .any, .one .any, .one .any, .one .any, .one .any, .one .any, .one .any, .one .any, .one .any, .one .any, .one .any, .one .any, .one .any, .one .any, .one .any, .one .any, .one .any, .one .any, .one .any, .one .any, .one .any, .one .any, .one .any, .one .any], mem := [.live { segs := [.xs .bool 256 y.2.1], own := .own }, .live { segs := [.xs .bool 256 y.2.2.1], own := .own }] }
noncomputable def p_ref15_MakeHint_l6_L (N : Nat) : LT := upd (LT.nil) 6 (loopE p_ref15_MakeHint_l6_S N (p_ref15_MakeHint_l6_F N) p_ref15_MakeHint_l6_go)
theorem p_ref15_MakeHint_l6_ok (N : Nat) : OkAll p_ref15_MakeHint_E p_ref15_MakeHint_H N (p_ref15_MakeHint_l6_L N) (subs p_ref15_MakeHint_c) :=
  addLoop (c := theLoop 6 p_ref15_MakeHint_c) (OkAll.nil) (by kernel_rfl) (fun x => by kernel_rfl) (fun β x kn ke => by kernel_rfl)
abbrev p_ref15_MakeHint_ks : List Kd := [.xs (.int .i32) 256, .xs (.int .i32) 256]
abbrev p_ref15_MakeHint_rs : List Kd := [.xs .bool 256, .int .i64]
noncomputable def p_ref15_MakeHint (N : Nat) (x : List Int × List Int × Unit) : Option (List Int × Int) :=
  (g_ref15_Decompose (x.2.1, ())).bind fun r1 => (
  (g_ref15_Add (x.2.1, x.1, ())).bind fun r2 => (
  (g_ref15_Decompose (r2, ())).bind fun r3 => (
  iter (p_ref15_MakeHint_l6_F N) N ((0:Int), (0:Int), (List.replicate 256 0), r1.1, r3.1, (List.replicate 256 0), ()) fun y4 => (
  some (y4.2.2.1, y4.1)))))
theorem p_ref15_MakeHint_eq (N : Nat) (x : Ds [.xs (.int .i32) 256, .xs (.int .i32) 256]) : funL p_ref15_MakeHint_E p_ref15_MakeHint_H (p_ref15_MakeHint_l6_L N) N Go.Proofs.Try.f21 p_ref15_MakeHint_c [.xs (.int .i32) 256, .xs (.int .i32) 256] [.xs .bool 256, .int .i64] x = p_ref15_MakeHint N x := by kernel_rfl
theorem p_ref15_MakeHint_Eok (he_ref15_Decompose : SigOk Go.Proofs.Try.prog 16 ⟨[.xs (.int .i32) 256], [.xs (.int .i32) 256, .xs (.int .i32) 256], g_ref15_Decompose⟩) (he_ref15_Add : SigOk Go.Proofs.Try.prog 44 ⟨[.xs (.int .i32) 256, .xs (.int .i32) 256], [.xs (.int .i32) 256], g_ref15_Add⟩) : p_ref15_MakeHint_E.Ok Go.Proofs.Try.prog := AE.of_ok (all_cons ty4_ok (all_cons ty21_ok (all_cons ty23_ok (all_cons ty31_ok all_nil)))) (all_cons ⟨he_ref15_Decompose, enters_ref15_Decompose⟩ (all_cons ⟨he_ref15_Add, enters_ref15_Add⟩ all_nil))
theorem p_ref15_MakeHint_ok (he_ref15_Decompose : SigOk Go.Proofs.Try.prog 16 ⟨[.xs (.int .i32) 256], [.xs (.int .i32) 256, .xs (.int .i32) 256], g_ref15_Decompose⟩) (he_ref15_Add : SigOk Go.Proofs.Try.prog 44 ⟨[.xs (.int .i32) 256, .xs (.int .i32) 256], [.xs (.int .i32) 256], g_ref15_Add⟩) {g : Ds [.xs (.int .i32) 256, .xs (.int .i32) 256] → Option (Rs [.xs .bool 256, .int .i64])} (hg : ∀ x r, g x = some r → ∃ N, p_ref15_MakeHint N x = some r) : SigOk Go.Proofs.Try.prog 21 ⟨[.xs (.int .i32) 256, .xs (.int .i32) 256], [.xs .bool 256, .int .i64], g⟩ :=
  fun_of (E := p_ref15_MakeHint_E) (H := p_ref15_MakeHint_H) (L := fun N => p_ref15_MakeHint_l6_L N) (c := p_ref15_MakeHint_c) (ks := p_ref15_MakeHint_ks) (rs := p_ref15_MakeHint_rs) (F := p_ref15_MakeHint) (p_ref15_MakeHint_Eok he_ref15_Decompose he_ref15_Add) mix Go.Proofs.Try.func21 (by kernel_rfl) (fun N => p_ref15_MakeHint_l6_ok N) p_ref15_MakeHint_eq hg

/-! livery/dring.UseHint -/
noncomputable def p_dring_UseHint_E : AE := AE.of [(4, ty4), (21, ty21), (23, ty23), (31, ty31)] [(15, ⟨[.xs (.int .i32) 256], [.xs (.int .i32) 256, .xs (.int .i32) 256], g_dring_Decompose⟩)]
noncomputable def p_dring_UseHint_H : Hints := [(3, [4, 5, 6, 14, 15]), (2000000, [4, 5]), (2000001, [4, 5, 6, 14, 15]), (2000002, [4, 5, 6, 14, 15]), (3000000, [4])]
noncomputable def p_dring_UseHint_c : Code := (Go.Proofs.Try.f22).body.getD .skip
noncomputable def p_dring_UseHint_l3_S : Shape where
  h := { tmps := [.any, .any, .any, .any, .sc (.ptr 0 0 false), .sc (.ptr 1 0 false), .sc (.ptr 2 0 false), .any, .any, .any, .any, .any, .any, .any, .agg [.xs .bool (some 256)], .sc (.int .i64), .any, .any, .any, .any, .any, .any, .any, .any, .any, .any, .any, .any, .any, .any, .any, .any, .any, .any, .any, .any, .any, .any, .any, .any, .any, .any, .any, .any, .any, .any], mem := [.live [.xs (.int .i32) (some 256)] (.own), .live [.xs (.int .i32) (some 256)] (.own), .live [.xs (.int .i32) (some 256)] (.own)] }
  ks := [.xs, .int, .xs, .xs, .xs]
  st := fun x => { tmps := [.one .any, .one .any, .one .any, .one .any, .one (.sc (.ptr 0 0 none)), .one (.sc (.ptr 1 0 none)), .one (.sc (.ptr 2 0 none)), .one .any, .one .any, .one .any, .one .any, .one .any, .one .any, .one .any, .one (.agg [.xs .bool 256 x.1]), .one (.sc (.int .i64 x.2.1)), .one .any, .one .any, .one .any, .one .any, .one .any, .one .any, .one .any, .one .any, .one .any, .one .any, .one .any, .one .any, .one .any, .one .any, .one .any, .one .any, .one .any, .one .any, .one .any, .one .any, .one .any, .one .any, .one .any, .one .any, .one .any, .one .any, .one .any, .one .any, .one .any, .one .any], mem := [.live { segs := [.xs (.int .i32) 256 x.2.2.1], own := .own }, .live { segs := [.xs (.int .i32) 256 x.2.2.2.1], own := .own }, .live { segs := [.xs (.int .i32) 256 x.2.2.2.2.1], own := .own }] }
noncomputable def p_dring_UseHint_l3_F (N : Nat) (β : Type) (x : (List Int × Int × List Int × List Int × List Int × Unit)) (kn : (List Int × Int × List Int × List Int × List Int × Unit) → Option β) (ke : ((List Int × List Int × Unit)) → Option β) : Option β :=
  if (x.2.1 < (256:Int)) then
    if 0 ≤ x.2.1 then (
    if x.2.1 < 256 then (
    if (x.2.1.toNat) < 256 then (
    if ((List.getD x.1 (x.2.1.toNat) 0) ≠ 0) then
      if 0 ≤ x.2.1 then (
      if x.2.1 < 256 then (
      if (x.2.1.toNat) < 256 then (
      if ((List.getD x.2.2.2.2.1 (x.2.1.toNat) 0) > (0:Int)) then
        if 0 ≤ x.2.1 then (
        if x.2.1 < 256 then (
        if (x.2.1.toNat) < 256 then (
        if 0 ≤ x.2.1 then (
        if x.2.1 < 256 then (
        if (x.2.1.toNat) < 256 then (
        kn (x.1, (IntKind.i64.wrap (x.2.1 + (1:Int))), x.2.2.1, (List.set x.2.2.2.1 (x.2.1.toNat) (Int.tmod (IntKind.i32.wrap ((List.getD x.2.2.2.1 (x.2.1.toNat) 0) + (1:Int))) (16:Int))), x.2.2.2.2.1, ())) else none) else none) else none) else none) else none) else none
      else
        if ((List.getD x.1 (x.2.1.toNat) 0) ≠ 0) then
          if 0 ≤ x.2.1 then (
          if x.2.1 < 256 then (
          if (x.2.1.toNat) < 256 then (
          if 0 ≤ x.2.1 then (
          if x.2.1 < 256 then (
          if (x.2.1.toNat) < 256 then (
          kn (x.1, (IntKind.i64.wrap (x.2.1 + (1:Int))), x.2.2.1, (List.set x.2.2.2.1 (x.2.1.toNat) (Int.tmod (IntKind.i32.wrap ((IntKind.i32.wrap ((List.getD x.2.2.2.1 (x.2.1.toNat) 0) + (16:Int))) - (1:Int))) (16:Int))), x.2.2.2.2.1, ())) else none) else none) else none) else none) else none) else none
        else
          kn (x.1, (IntKind.i64.wrap (x.2.1 + (1:Int))), x.2.2.1, x.2.2.2.1, x.2.2.2.2.1, ())) else none) else none) else none
    else
      if ((List.getD x.1 (x.2.1.toNat) 0) ≠ 0) then
        if 0 ≤ x.2.1 then (
        if x.2.1 < 256 then (
        if (x.2.1.toNat) < 256 then (
        if 0 ≤ x.2.1 then (
        if x.2.1 < 256 then (
        if (x.2.1.toNat) < 256 then (
        kn (x.1, (IntKind.i64.wrap (x.2.1 + (1:Int))), x.2.2.1, (List.set x.2.2.2.1 (x.2.1.toNat) (Int.tmod (IntKind.i32.wrap ((IntKind.i32.wrap ((List.getD x.2.2.2.1 (x.2.1.toNat) 0) + (16:Int))) - (1:Int))) (16:Int))), x.2.2.2.2.1, ())) else none) else none) else none) else none) else none) else none
      else
        kn (x.1, (IntKind.i64.wrap (x.2.1 + (1:Int))), x.2.2.1, x.2.2.2.1, x.2.2.2.2.1, ())) else none) else none) else none
  else
    ke (x.2.2.1, x.2.2.2.1, ())
noncomputable def p_dring_UseHint_l3_go : Go' ((List Int × List Int × Unit)) := fun y K => K (.exit 0) { tmps := [.one .any, .one .any, .one .any, .one .any, .one (.sc (.ptr 0 0 none)), .one (.sc (.ptr 1 0 none)), .one .any, .one .any, .one .any, .one .any, .one .any, .one .any, .one .any, .one .any, .one .any, .one .any, .one .any, .one .any, .one .any, .one .any, .one .any, .one .any, .one .any, .one .any, .one .any, .one .any, .one .any, .one .any, .one .any, .one .any, .one .any, .one .any, .one .any, .one .any, .one .any, .one .any, .one .any, .one .any, .one .any, .one .any, .one .any, .one .any, .one .any, .one .any, .one .any, .one .any], mem := [.live { segs := [.xs (.int .i32) 256 y.1], own := .own }, .live { segs := [.xs (.int .i32) 256 y.2.1], own := .own }] }
noncomputable def p_dring_UseHint_l3_L (N : Nat) : LT := upd (LT.nil) 3 (loopE p_dring_UseHint_l3_S N (p_dring_UseHint_l3_F N) p_dring_UseHint_l3_go)
theorem p_dring_UseHint_l3_ok (N : Nat) : OkAll p_dring_UseHint_E p_dring_UseHint_H N (p_dring_UseHint_l3_L N) (subs p_dring_UseHint_c) :=
  addLoop (c := theLoop 3 p_dring_UseHint_c) (OkAll.nil) (by kernel_rfl) (fun x => by kernel_rfl) (fun β x kn ke => by kernel_rfl)
abbrev p_dring_UseHint_ks : List Kd := [.xs .bool 256, .xs (.int .i32) 256]
abbrev p_dring_UseHint_rs : List Kd := [.xs (.int .i32) 256]
noncomputable def p_dring_UseHint (N : Nat) (x : List Int × List Int × Unit) : Option (List Int) :=
  (g_dring_Decompose (x.2.1, ())).bind fun r1 => (
  iter (p_dring_UseHint_l3_F N) N (x.1, (0:Int), (List.replicate 256 0), r1.1, r1.2, ()) fun y2 => (
  some y2.2.1))
theorem p_dring_UseHint_eq (N : Nat) (x : Ds [.xs .bool 256, .xs (.int .i32) 256]) : funL p_dring_UseHint_E p_dring_UseHint_H (p_dring_UseHint_l3_L N) N Go.Proofs.Try.f22 p_dring_UseHint_c [.xs .bool 256, .xs (.int .i32) 256] [.xs (.int .i32) 256] x = p_dring_UseHint N x := by kernel_rfl
theorem p_dring_UseHint_Eok (he_dring_Decompose : SigOk Go.Proofs.Try.prog 15 ⟨[.xs (.int .i32) 256], [.xs (.int .i32) 256, .xs (.int .i32) 256], g_dring_Decompose⟩) : p_dring_UseHint_E.Ok Go.Proofs.Try.prog := AE.of_ok (all_cons ty4_ok (all_cons ty21_ok (all_cons ty23_ok (all_cons ty31_ok all_nil)))) (all_cons ⟨he_dring_Decompose, enters_dring_Decompose⟩ all_nil)
theorem p_dring_UseHint_ok (he_dring_Decompose : SigOk Go.Proofs.Try.prog 15 ⟨[.xs (.int .i32) 256], [.xs (.int .i32) 256, .xs (.int .i32) 256], g_dring_Decompose⟩) {g : Ds [.xs .bool 256, .xs (.int .i32) 256] → Option (Rs [.xs (.int .i32) 256])} (hg : ∀ x r, g x = some r → ∃ N, p_dring_UseHint N x = some r) : SigOk Go.Proofs.Try.prog 22 ⟨[.xs .bool 256, .xs (.int .i32) 256], [.xs (.int .i32) 256], g⟩ :=
  fun_of (E := p_dring_UseHint_E) (H := p_dring_UseHint_H) (L := fun N => p_dring_UseHint_l3_L N) (c := p_dring_UseHint_c) (ks := p_dring_UseHint_ks) (rs := p_dring_UseHint_rs) (F := p_dring_UseHint) (p_dring_UseHint_Eok he_dring_Decompose) mix Go.Proofs.Try.func22 (by kernel_rfl) (fun N => p_dring_UseHint_l3_ok N) p_dring_UseHint_eq hg

/-! livery/liveryref15.UseHint -/
noncomputable def p_ref15_UseHint_E : AE := AE.of [(4, ty4), (21, ty21), (23, ty23), (31, ty31)] [(16, ⟨[.xs (.int .i32) 256], [.xs (.int .i32) 256, .xs (.int .i32) 256], g_ref15_Decompose⟩)]
noncomputable def p_ref15_UseHint_H : Hints := [(3, [2, 4, 5, 6, 13]), (2000000, [4, 5]), (2000001, [2, 4, 5, 6, 13]), (3000000, [4])]
noncomputable def p_ref15_UseHint_c : Code := (Go.Proofs.Try.f23).body.getD .skip
noncomputable def p_ref15_UseHint_l3_S : Shape where
  h := { tmps := [.any, .any, .sc (.ptr 0 0 false), .any, .sc (.ptr 1 0 false), .sc (.ptr 2 0 false), .sc (.ptr 3 0 false), .any, .any, .any, .any, .any, .any, .sc (.int .i64), .any, .any, .any, .any, .any, .any, .any, .any, .any, .any, .any, .any, .any, .any, .any, .any, .any, .any, .any, .any, .any, .any, .any, .any, .any, .any, .any, .any, .any, .any], mem := [.live [.xs .bool (some 256)] (.own), .live [.xs (.int .i32) (some 256)] (.own), .live [.xs (.int .i32) (some 256)] (.own), .live [.xs (.int .i32) (some 256)] (.own)] }
  ks := [.int, .xs, .xs, .xs, .xs]
  st := fun x => { tmps := [.one .any, .one .any, .one (.sc (.ptr 0 0 none)), .one .any, .one (.sc (.ptr 1 0 none)), .one (.sc (.ptr 2 0 none)), .one (.sc (.ptr 3 0 none)), .one .any, .one .any, .one .any, .one .any, .one .any, .one .any, .one (.sc (.int .i64 x.1)), .one .any, .one .any, .one .any, .one .any, .one .any, .one .any, .one .any, .one .any, .one .any, .one .any, .one .any, .one .any, .one .any, .one .any, .one .any, .one .any, .one .any, .one .any, .one .any, .one .any, .one .any, .one .any, .one .any, .one .any, .one .any, .one .any, .one .any, .one .any, .one .any, .one .any], mem := [.live { segs := [.xs .bool 256 x.2.1], own := .own }, .live { segs := [.xs (.int .i32) 256 x.2.2.1], own := .own }, .live { segs := [.xs (.int .i32) 256 x.2.2.2.1], own := .own }, .live { segs := [.xs (.int .i32) 256 x.2.2.2.2.1], own := .own }] }
noncomputable def p_ref15_UseHint_l3_F (N : Nat) (β : Type) (x : (Int × List Int × List Int × List Int × List Int × Unit)) (kn : (Int × List Int × List Int × List Int × List Int × Unit) → Option β) (ke : ((List Int × List Int × Unit)) → Option β) : Option β :=
  if (x.1 < (256:Int)) then
    if 0 ≤ x.1 then (
    if x.1 < 256 then (
    if (x.1.toNat) < 256 then (
    if ((List.getD x.2.1 (x.1.toNat) 0) ≠ 0) then
      if 0 ≤ x.1 then (
      if x.1 < 256 then (
      if (x.1.toNat) < 256 then (
      if ((List.getD x.2.2.2.2.1 (x.1.toNat) 0) > (0:Int)) then
        if 0 ≤ x.1 then (
        if x.1 < 256 then (
        if (x.1.toNat) < 256 then (
        if 0 ≤ x.1 then (
        if x.1 < 256 then (
        if (x.1.toNat) < 256 then (
        kn ((IntKind.i64.wrap (x.1 + (1:Int))), x.2.1, x.2.2.1, (List.set x.2.2.2.1 (x.1.toNat) (Int.tmod (IntKind.i32.wrap ((List.getD x.2.2.2.1 (x.1.toNat) 0) + (1:Int))) (16:Int))), x.2.2.2.2.1, ())) else none) else none) else none) else none) else none) else none
      else
        if 0 ≤ x.1 then (
        if x.1 < 256 then (
        if (x.1.toNat) < 256 then (
        if ((List.getD x.2.1 (x.1.toNat) 0) ≠ 0) then
          if 0 ≤ x.1 then (
          if x.1 < 256 then (
          if (x.1.toNat) < 256 then (
          if 0 ≤ x.1 then (
          if x.1 < 256 then (
          if (x.1.toNat) < 256 then (
          kn ((IntKind.i64.wrap (x.1 + (1:Int))), x.2.1, x.2.2.1, (List.set x.2.2.2.1 (x.1.toNat) (Int.tmod (IntKind.i32.wrap ((List.getD x.2.2.2.1 (x.1.toNat) 0) + (15:Int))) (16:Int))), x.2.2.2.2.1, ())) else none) else none) else none) else none) else none) else none
        else
          kn ((IntKind.i64.wrap (x.1 + (1:Int))), x.2.1, x.2.2.1, x.2.2.2.1, x.2.2.2.2.1, ())) else none) else none) else none) else none) else none) else none
    else
      if 0 ≤ x.1 then (
      if x.1 < 256 then (
      if (x.1.toNat) < 256 then (
      if ((List.getD x.2.1 (x.1.toNat) 0) ≠ 0) then
        if 0 ≤ x.1 then (
        if x.1 < 256 then (
        if (x.1.toNat) < 256 then (
        if 0 ≤ x.1 then (
        if x.1 < 256 then (
        if (x.1.toNat) < 256 then (
        kn ((IntKind.i64.wrap (x.1 + (1:Int))), x.2.1, x.2.2.1, (List.set x.2.2.2.1 (x.1.toNat) (Int.tmod (IntKind.i32.wrap ((List.getD x.2.2.2.1 (x.1.toNat) 0) + (15:Int))) (16:Int))), x.2.2.2.2.1, ())) else none) else none) else none) else none) else none) else none
      else
        kn ((IntKind.i64.wrap (x.1 + (1:Int))), x.2.1, x.2.2.1, x.2.2.2.1, x.2.2.2.2.1, ())) else none) else none) else none) else none) else none) else none
  else
    ke (x.2.2.1, x.2.2.2.1, ())
noncomputable def p_ref15_UseHint_l3_go : Go' ((List Int × List Int × Unit)) := fun y K => K (.exit 0) { tmps := [.one .any, .one .any, .one .any, .one .any, .one (.sc (.ptr 0 0 none)), .one (.sc (.ptr 1 0 none)), .one .any, .one .any, .one .any, .one .any, .one .any, .one .any, .one .any, .one .any, .one .any, .one .any, .one .any, .one .any, .one .any, .one .any, .one .any, .one .any, .one .any, .one .any, .one .any, .one .any, .one .any, .one .any, .one .any, .one .any, .one .any, .one .any, .one .any, .one .any, .one .any, .one .any, .one .any, .one .any, .one .any, .one .any, .one .any, .one .any, .one .any, .one .any], mem := [.live { segs := [.xs (.int .i32) 256 y.1], own := .own }, .live { segs := [.xs (.int .i32) 256 y.2.1], own := .own }] }
noncomputable def p_ref15_UseHint_l3_L (N : Nat) : LT := upd (LT.nil) 3 (loopE p_ref15_UseHint_l3_S N (p_ref15_UseHint_l3_F N) p_ref15_UseHint_l3_go)
theorem p_ref15_UseHint_l3_ok (N : Nat) : OkAll p_ref15_UseHint_E p_ref15_UseHint_H N (p_ref15_UseHint_l3_L N) (subs p_ref15_UseHint_c) :=
  addLoop (c := theLoop 3 p_ref15_UseHint_c) (OkAll.nil) (by kernel_rfl) (fun x => by kernel_rfl) (fun β x kn ke => by kernel_rfl)
abbrev p_ref15_UseHint_ks : List Kd := [.xs .bool 256, .xs (.int .i32) 256]
abbrev p_ref15_UseHint_rs : List Kd := [.xs (.int .i32) 256]
noncomputable def p_ref15_UseHint (N : Nat) (x : List Int × List Int × Unit) : Option (List Int) :=
  (g_ref15_Decompose (x.2.1, ())).bind fun r1 => (
  iter (p_ref15_UseHint_l3_F N) N ((0:Int), x.1, (List.replicate 256 0), r1.1, r1.2, ()) fun y2 => (
  some y2.2.1))
theorem p_ref15_UseHint_eq (N : Nat) (x : Ds [.xs .bool 256, .xs (.int .i32) 256]) : funL p_ref15_UseHint_E p_ref15_UseHint_H (p_ref15_UseHint_l3_L N) N Go.Proofs.Try.f23 p_ref15_UseHint_c [.xs .bool 256, .xs (.int .i32) 256] [.xs (.int .i32) 256] x = p_ref15_UseHint N x := by kernel_rfl
theorem p_ref15_UseHint_Eok (he_ref15_Decompose : SigOk Go.Proofs.Try.prog 16 ⟨[.xs (.int .i32) 256], [.xs (.int .i32) 256, .xs (.int .i32) 256], g_ref15_Decompose⟩) : p_ref15_UseHint_E.Ok Go.Proofs.Try.prog := AE.of_ok (all_cons ty4_ok (all_cons ty21_ok (all_cons ty23_ok (all_cons ty31_ok all_nil)))) (all_cons ⟨he_ref15_Decompose, enters_ref15_Decompose⟩ all_nil)
theorem p_ref15_UseHint_ok (he_ref15_Decompose : SigOk Go.Proofs.Try.prog 16 ⟨[.xs (.int .i32) 256], [.xs (.int .i32) 256, .xs (.int .i32) 256], g_ref15_Decompose⟩) {g : Ds [.xs .bool 256, .xs (.int .i32) 256] → Option (Rs [.xs (.int .i32) 256])} (hg : ∀ x r, g x = some r → ∃ N, p_ref15_UseHint N x = some r) : SigOk Go.Proofs.Try.prog 23 ⟨[.xs .bool 256, .xs (.int .i32) 256], [.xs (.int .i32) 256], g⟩ :=
  fun_of (E := p_ref15_UseHint_E) (H := p_ref15_UseHint_H) (L := fun N => p_ref15_UseHint_l3_L N) (c := p_ref15_UseHint_c) (ks := p_ref15_UseHint_ks) (rs := p_ref15_UseHint_rs) (F := p_ref15_UseHint) (p_ref15_UseHint_Eok he_ref15_Decompose) mix Go.Proofs.Try.func23 (by kernel_rfl) (fun N => p_ref15_UseHint_l3_ok N) p_ref15_UseHint_eq hg

/-! livery/liverylaw15.DringParts -/
noncomputable def p_law15_DringParts_E : AE := AE.of [(2, ty2), (21, ty21), (23, ty23)] [(18, ⟨[.xs (.int .i32) 256], [.xs (.int .i32) 256], g_dring_Reduce⟩), (13, ⟨[.xs (.int .i32) 256], [.xs (.int .i32) 256, .xs (.int .i32) 256], g_dring_Power2Round⟩), (15, ⟨[.xs (.int .i32) 256], [.xs (.int .i32) 256, .xs (.int .i32) 256], g_dring_Decompose⟩), (17, ⟨[], [.bool], g_law15_live⟩), (19, ⟨[.xs (.int .i32) 256], [.int .i32], g_dring_Norm⟩)]
noncomputable def p_law15_DringParts_H : Hints := [(7, [3, 4, 5, 6, 7, 35]), (2000000, []), (2000001, [3, 4, 5, 6, 7, 35]), (3000000, [2])]
noncomputable def p_law15_DringParts_c : Code := (Go.Proofs.Try.f4).body.getD .skip
noncomputable def p_law15_DringParts_l7_S : Shape where
  h := { tmps := [.any, .any, .any, .sc (.ptr 0 0 false), .sc (.ptr 1 0 false), .sc (.ptr 2 0 false), .sc (.ptr 3 0 false), .sc (.ptr 4 0 false), .any, .any, .any, .any, .any, .any, .any, .any, .any, .any, .any, .any, .any, .any, .any, .any, .any, .any, .any, .any, .any, .any, .any, .any, .any, .any, .any, .sc (.int .i64), .any, .any, .any, .any, .any, .any, .any, .any, .any, .any, .any, .any, .any, .any, .any, .any, .any, .any, .any, .any, .any, .any, .any, .any, .any, .any, .any, .any, .any, .any, .any, .any, .any, .any, .any, .any, .any, .any, .any, .any, .any, .any, .any, .any, .any, .any, .any, .any, .any, .any, .any, .any, .any, .any, .any, .any, .any, .any, .any, .any, .any, .any, .any, .any, .any, .any, .any, .any], mem := [.live [.xs (.int .i32) (some 256)] (.own), .live [.xs (.int .i32) (some 256)] (.own), .live [.xs (.int .i32) (some 256)] (.own), .live [.xs (.int .i32) (some 256)] (.own), .live [.xs (.int .i32) (some 256)] (.own)] }
  ks := [.int, .xs, .xs, .xs, .xs, .xs]
  st := fun x => { tmps := [.one .any, .one .any, .one .any, .one (.sc (.ptr 0 0 none)), .one (.sc (.ptr 1 0 none)), .one (.sc (.ptr 2 0 none)), .one (.sc (.ptr 3 0 none)), .one (.sc (.ptr 4 0 none)), .one .any, .one .any, .one .any, .one .any, .one .any, .one .any, .one .any, .one .any, .one .any, .one .any, .one .any, .one .any, .one .any, .one .any, .one .any, .one .any, .one .any, .one .any, .one .any, .one .any, .one .any, .one .any, .one .any, .one .any, .one .any, .one .any, .one .any, .one (.sc (.int .i64 x.1)), .one .any, .one .any, .one .any, .one .any, .one .any, .one .any, .one .any, .one .any, .one .any, .one .any, .one .any, .one .any, .one .any, .one .any, .one .any, .one .any, .one .any, .one .any, .one .any, .one .any, .one .any, .one .any, .one .any, .one .any, .one .any, .one .any, .one .any, .one .any, .one .any, .one .any, .one .any, .one .any, .one .any, .one .any, .one .any, .one .any, .one .any, .one .any, .one .any, .one .any, .one .any, .one .any, .one .any, .one .any, .one .any, .one .any, .one .any, .one .any, .one .any, .one .any, .one .any, .one .any, .one .any, .one .any, .one .any, .one .any, .one .any, .one .any, .one .any, .one .any, .one .any, .one .any, .one .any, .one .any, .one .any, .one .any, .one .any, .one .any], mem := [.live { segs := [.xs (.int .i32) 256 x.2.1], own := .own }, .live { segs := [.xs (.int .i32) 256 x.2.2.1], own := .own }, .live { segs := [.xs (.int .i32) 256 x.2.2.2.1], own := .own }, .live { segs := [.xs (.int .i32) 256 x.2.2.2.2.1], own := .own }, .live { segs := [.xs (.int .i32) 256 x.2.2.2.2.2.1], own := .own }] }
noncomputable def p_law15_DringParts_l7_F (N : Nat) (β : Type) (x : (Int × List Int × List Int × List Int × List Int × List Int × Unit)) (kn : (Int × List Int × List Int × List Int × List Int × List Int × Unit) → Option β) (ke : ((Bool × Unit) ⊕ (Unit)) → Option β) : Option β :=
  if (x.1 < (256:Int)) then
    if 0 ≤ x.1 then (
    if x.1 < 256 then (
    if (x.1.toNat) < 256 then (
    if 0 ≤ x.1 then (
    if x.1 < 256 then (
    if (x.1.toNat) < 256 then (
    if 0 ≤ x.1 then (
    if x.1 < 256 then (
    if (x.1.toNat) < 256 then (
    if 0 ≤ x.1 then (
    if x.1 < 256 then (
    if (x.1.toNat) < 256 then (
    if 0 ≤ x.1 then (
    if x.1 < 256 then (
    if (x.1.toNat) < 256 then (
    if 0 ≤ x.1 then (
    if x.1 < 256 then (
    if (x.1.toNat) < 256 then (
    if ((IntKind.i64.wrap ((IntKind.i64.wrap ((IntKind.i64.wrap ((IntKind.i64.wrap (List.getD x.2.2.1 (x.1.toNat) 0)) * (8192:Int))) + (IntKind.i64.wrap (List.getD x.2.2.2.1 (x.1.toNat) 0)))) - (IntKind.i64.wrap (List.getD x.2.1 (x.1.toNat) 0)))) ≠ (0:Int)) then
      ke (.inl (false, ()))
    else
      if ((IntKind.i64.wrap ((IntKind.i64.wrap ((IntKind.i64.wrap ((IntKind.i64.wrap ((IntKind.i64.wrap (List.getD x.2.2.2.2.1 (x.1.toNat) 0)) * (2:Int))) * (261888:Int))) + (IntKind.i64.wrap (List.getD x.2.2.2.2.2.1 (x.1.toNat) 0)))) - (IntKind.i64.wrap (List.getD x.2.1 (x.1.toNat) 0)))) ≠ (0:Int)) then
        if ((IntKind.i64.wrap ((IntKind.i64.wrap ((IntKind.i64.wrap ((IntKind.i64.wrap ((IntKind.i64.wrap (List.getD x.2.2.2.2.1 (x.1.toNat) 0)) * (2:Int))) * (261888:Int))) + (IntKind.i64.wrap (List.getD x.2.2.2.2.2.1 (x.1.toNat) 0)))) - (IntKind.i64.wrap (List.getD x.2.1 (x.1.toNat) 0)))) ≠ (-8380417:Int)) then
          ke (.inl (false, ()))
        else
          if 0 ≤ x.1 then (
          if x.1 < 256 then (
          if (x.1.toNat) < 256 then (
          if ((List.getD x.2.2.2.2.1 (x.1.toNat) 0) < (0:Int)) then
            ke (.inl (false, ()))
          else
            if 0 ≤ x.1 then (
            if x.1 < 256 then (
            if (x.1.toNat) < 256 then (
            if ((List.getD x.2.2.2.2.1 (x.1.toNat) 0) ≥ (16:Int)) then
              ke (.inl (false, ()))
            else
              if 0 ≤ x.1 then (
              if x.1 < 256 then (
              if (x.1.toNat) < 256 then (
              if ((List.getD x.2.2.1 (x.1.toNat) 0) < (0:Int)) then
                ke (.inl (false, ()))
              else
                if 0 ≤ x.1 then (
                if x.1 < 256 then (
                if (x.1.toNat) < 256 then (
                if ((List.getD x.2.2.1 (x.1.toNat) 0) > (1023:Int)) then
                  ke (.inl (false, ()))
                else
                  kn ((IntKind.i64.wrap (x.1 + (1:Int))), x.2.1, x.2.2.1, x.2.2.2.1, x.2.2.2.2.1, x.2.2.2.2.2.1, ())) else none) else none) else none) else none) else none) else none) else none) else none) else none) else none) else none) else none
      else
        if 0 ≤ x.1 then (
        if x.1 < 256 then (
        if (x.1.toNat) < 256 then (
        if ((List.getD x.2.2.2.2.1 (x.1.toNat) 0) < (0:Int)) then
          ke (.inl (false, ()))
        else
          if 0 ≤ x.1 then (
          if x.1 < 256 then (
          if (x.1.toNat) < 256 then (
          if ((List.getD x.2.2.2.2.1 (x.1.toNat) 0) ≥ (16:Int)) then
            ke (.inl (false, ()))
          else
            if 0 ≤ x.1 then (
            if x.1 < 256 then (
            if (x.1.toNat) < 256 then (
            if ((List.getD x.2.2.1 (x.1.toNat) 0) < (0:Int)) then
              ke (.inl (false, ()))
            else
              if 0 ≤ x.1 then (
              if x.1 < 256 then (
              if (x.1.toNat) < 256 then (
              if ((List.getD x.2.2.1 (x.1.toNat) 0) > (1023:Int)) then
                ke (.inl (false, ()))
              else
                kn ((IntKind.i64.wrap (x.1 + (1:Int))), x.2.1, x.2.2.1, x.2.2.2.1, x.2.2.2.2.1, x.2.2.2.2.2.1, ())) else none) else none) else none) else none) else none) else none) else none) else none) else none) else none) else none) else none) else none) else none) else none) else none) else none) else none) else none) else none) else none) else none) else none) else none) else none) else none) else none) else none) else none) else none
  else
    ke (.inr (()))
noncomputable def p_law15_DringParts_l7_go : Go' ((Bool × Unit) ⊕ (Unit)) := fun y K => match y with
  | .inl y => K .ret { tmps := [.one .any, .one .any, .one (.sc (.known y.1)), .one .any, .one .any, .one .any, .one .any, .one .any, .one .any, .one .any, .one .any, .one .any, .one .any, .one .any, .one .any, .one .any, .one .any, .one .any, .one .any, .one .any, .one .any, .one .any, .one .any, .one .any, .one .any, .one .any, .one .any, .one .any, .one .any, .one .any, .one .any, .one .any, .one .any, .one .any, .one .any, .one .any, .one .any, .one .any, .one .any, .one .any, .one .any, .one .any, .one .any, .one .any, .one .any, .one .any, .one .any, .one .any, .one .any, .one .any, .one .any, .one .any, .one .any, .one .any, .one .any, .one .any, .one .any, .one .any, .one .any, .one .any, .one .any, .one .any, .one .any, .one .any, .one .any, .one .any, .one .any, .one .any, .one .any, .one .any, .one .any, .one .any, .one .any, .one .any, .one .any, .one .any, .one .any, .one .any, .one .any, .one .any, .one .any, .one .any, .one .any, .one .any, .one .any, .one .any, .one .any, .one .any, .one .any, .one .any, .one .any, .one .any, .one .any, .one .any, .one .any, .one .any, .one .any, .one .any, .one .any, .one .any, .one .any, .one .any, .one .any, .one .any], mem := [] }
  | .inr y => K (.exit 0) { tmps := [.one .any, .one .any, .one .any, .one .any, .one .any, .one .any, .one .any, .one .any, .one .any, .one .any, .one .any, .one .any, .one .any, .one .any, .one .any, .one .any, .one .any, .one .any, .one .any, .one .any, .one .any, .one .any, .one .any, .one .any, .one .any, .one .any, .one .any, .one .any, .one .any, .one .any, .one .any, .one .any, .one .any, .one .any, .one .any, .one .any, .one .any, .one .any, .one .any, .one .any, .one .any, .one .any, .one .any, .one .any, .one .any, .one .any, .one .any, .one .any, .one .any, .one .any, .one .any, .one .any, .one .any, .one .any, .one .any, .one .any, .one .any, .one .any, .one .any, .one .any, .one .any, .one .any, .one .any, .one .any, .one .any, .one .any, .one .any, .one .any, .one .any, .one .any, .one .any, .one .any, .one .any, .one .any, .one .any, .one .any, .one .any, .one .any, .one .any, .one .any, .one .any, .one .any, .one .any, .one .any, .one .any, .one .any, .one .any, .one .any, .one .any, .one .any, .one .any, .one .any, .one .any, .one .any, .one .any, .one .any, .one .any, .one .any, .one .any, .one .any, .one .any, .one .any, .one .any, .one .any], mem := [] }
noncomputable def p_law15_DringParts_l7_L (N : Nat) : LT := upd (LT.nil) 7 (loopE p_law15_DringParts_l7_S N (p_law15_DringParts_l7_F N) p_law15_DringParts_l7_go)
theorem p_law15_DringParts_l7_ok (N : Nat) : OkAll p_law15_DringParts_E p_law15_DringParts_H N (p_law15_DringParts_l7_L N) (subs p_law15_DringParts_c) :=
  addLoop (c := theLoop 7 p_law15_DringParts_c) (OkAll.nil) (by kernel_rfl) (fun x => by kernel_rfl) (fun β x kn ke => by kernel_rfl)
abbrev p_law15_DringParts_ks : List Kd := [.xs (.int .i32) 256]
abbrev p_law15_DringParts_rs : List Kd := [.bool]
noncomputable def p_law15_DringParts (N : Nat) (x : List Int × Unit) : Option (Bool) :=
  (g_dring_Reduce (x.1, ())).bind fun r1 => (
  (g_dring_Power2Round (x.1, ())).bind fun r2 => (
  (g_dring_Decompose (x.1, ())).bind fun r3 => (
  (g_law15_live (())).bind fun r4 => (
  if (¬ (r4 = true)) then
    some false
  else
    (g_dring_Norm (r2.2, ())).bind fun r5 => (
    if (r5 > (4096:Int)) then
      some false
    else
      (g_dring_Norm (r3.2, ())).bind fun r6 => (
      if (r6 > (261888:Int)) then
        some false
      else
        iter (p_law15_DringParts_l7_F N) N ((0:Int), r1, r2.1, r2.2, r3.1, r3.2, ()) fun y => (match y with
        | .inl y7 => (
          some y7.1)
        | .inr y8 => (
          some true))))))))
theorem p_law15_DringParts_eq (N : Nat) (x : Ds [.xs (.int .i32) 256]) : funL p_law15_DringParts_E p_law15_DringParts_H (p_law15_DringParts_l7_L N) N Go.Proofs.Try.f4 p_law15_DringParts_c [.xs (.int .i32) 256] [.bool] x = p_law15_DringParts N x := by kernel_rfl
theorem p_law15_DringParts_Eok (he_dring_Reduce : SigOk Go.Proofs.Try.prog 18 ⟨[.xs (.int .i32) 256], [.xs (.int .i32) 256], g_dring_Reduce⟩) (he_dring_Power2Round : SigOk Go.Proofs.Try.prog 13 ⟨[.xs (.int .i32) 256], [.xs (.int .i32) 256, .xs (.int .i32) 256], g_dring_Power2Round⟩) (he_dring_Decompose : SigOk Go.Proofs.Try.prog 15 ⟨[.xs (.int .i32) 256], [.xs (.int .i32) 256, .xs (.int .i32) 256], g_dring_Decompose⟩) (he_law15_live : SigOk Go.Proofs.Try.prog 17 ⟨[], [.bool], g_law15_live⟩) (he_dring_Norm : SigOk Go.Proofs.Try.prog 19 ⟨[.xs (.int .i32) 256], [.int .i32], g_dring_Norm⟩) : p_law15_DringParts_E.Ok Go.Proofs.Try.prog := AE.of_ok (all_cons ty2_ok (all_cons ty21_ok (all_cons ty23_ok all_nil))) (all_cons ⟨he_dring_Reduce, enters_dring_Reduce⟩ (all_cons ⟨he_dring_Power2Round, enters_dring_Power2Round⟩ (all_cons ⟨he_dring_Decompose, enters_dring_Decompose⟩ (all_cons ⟨he_law15_live, enters_law15_live⟩ (all_cons ⟨he_dring_Norm, enters_dring_Norm⟩ all_nil)))))
theorem p_law15_DringParts_ok (he_dring_Reduce : SigOk Go.Proofs.Try.prog 18 ⟨[.xs (.int .i32) 256], [.xs (.int .i32) 256], g_dring_Reduce⟩) (he_dring_Power2Round : SigOk Go.Proofs.Try.prog 13 ⟨[.xs (.int .i32) 256], [.xs (.int .i32) 256, .xs (.int .i32) 256], g_dring_Power2Round⟩) (he_dring_Decompose : SigOk Go.Proofs.Try.prog 15 ⟨[.xs (.int .i32) 256], [.xs (.int .i32) 256, .xs (.int .i32) 256], g_dring_Decompose⟩) (he_law15_live : SigOk Go.Proofs.Try.prog 17 ⟨[], [.bool], g_law15_live⟩) (he_dring_Norm : SigOk Go.Proofs.Try.prog 19 ⟨[.xs (.int .i32) 256], [.int .i32], g_dring_Norm⟩) {g : Ds [.xs (.int .i32) 256] → Option (Rs [.bool])} (hg : ∀ x r, g x = some r → ∃ N, p_law15_DringParts N x = some r) : SigOk Go.Proofs.Try.prog 4 ⟨[.xs (.int .i32) 256], [.bool], g⟩ :=
  fun_of (E := p_law15_DringParts_E) (H := p_law15_DringParts_H) (L := fun N => p_law15_DringParts_l7_L N) (c := p_law15_DringParts_c) (ks := p_law15_DringParts_ks) (rs := p_law15_DringParts_rs) (F := p_law15_DringParts) (p_law15_DringParts_Eok he_dring_Reduce he_dring_Power2Round he_dring_Decompose he_law15_live he_dring_Norm) mix Go.Proofs.Try.func4 (by kernel_rfl) (fun N => p_law15_DringParts_l7_ok N) p_law15_DringParts_eq hg

/-! livery/liverylaw15.DringHints -/
noncomputable def p_law15_DringHints_E : AE := AE.of [(4, ty4), (21, ty21), (23, ty23), (31, ty31)] [(20, ⟨[.xs (.int .i32) 256, .xs (.int .i32) 256], [.xs .bool 256, .int .i64], g_dring_MakeHint⟩), (21, ⟨[.xs (.int .i32) 256, .xs (.int .i32) 256], [.xs .bool 256, .int .i64], g_ref15_MakeHint⟩), (17, ⟨[], [.bool], g_law15_live⟩), (22, ⟨[.xs .bool 256, .xs (.int .i32) 256], [.xs (.int .i32) 256], g_dring_UseHint⟩), (23, ⟨[.xs .bool 256, .xs (.int .i32) 256], [.xs (.int .i32) 256], g_ref15_UseHint⟩)]
noncomputable def p_law15_DringHints_H : Hints := [(3000000, [6])]
noncomputable def p_law15_DringHints_c : Code := (Go.Proofs.Try.f5).body.getD .skip
abbrev p_law15_DringHints_ks : List Kd := [.xs (.int .i32) 256, .xs (.int .i32) 256, .xs .bool 256]
abbrev p_law15_DringHints_rs : List Kd := [.bool]
noncomputable def p_law15_DringHints (N : Nat) (x : List Int × List Int × List Int × Unit) : Option (Bool) :=
  (g_dring_MakeHint (x.1, x.2.1, ())).bind fun r1 => (
  (g_ref15_MakeHint (x.1, x.2.1, ())).bind fun r2 => (
  (g_law15_live (())).bind fun r3 => (
  if (r3 = true) then
    if ((List.map (· != 0) r1.1) = (List.map (· != 0) r2.1)) then
      if (r1.2 = r2.2) then
        (g_dring_UseHint (x.2.2.1, x.2.1, ())).bind fun r4 => (
        (g_ref15_UseHint (x.2.2.1, x.2.1, ())).bind fun r5 => (
        some (decide (r4 = r5))))
      else
        some false
    else
      some false
  else
    some false)))
theorem p_law15_DringHints_eq (N : Nat) (x : Ds [.xs (.int .i32) 256, .xs (.int .i32) 256, .xs .bool 256]) : funL p_law15_DringHints_E p_law15_DringHints_H (LT.nil) N Go.Proofs.Try.f5 p_law15_DringHints_c [.xs (.int .i32) 256, .xs (.int .i32) 256, .xs .bool 256] [.bool] x = p_law15_DringHints N x := by kernel_rfl
theorem p_law15_DringHints_Eok (he_dring_MakeHint : SigOk Go.Proofs.Try.prog 20 ⟨[.xs (.int .i32) 256, .xs (.int .i32) 256], [.xs .bool 256, .int .i64], g_dring_MakeHint⟩) (he_ref15_MakeHint : SigOk Go.Proofs.Try.prog 21 ⟨[.xs (.int .i32) 256, .xs (.int .i32) 256], [.xs .bool 256, .int .i64], g_ref15_MakeHint⟩) (he_law15_live : SigOk Go.Proofs.Try.prog 17 ⟨[], [.bool], g_law15_live⟩) (he_dring_UseHint : SigOk Go.Proofs.Try.prog 22 ⟨[.xs .bool 256, .xs (.int .i32) 256], [.xs (.int .i32) 256], g_dring_UseHint⟩) (he_ref15_UseHint : SigOk Go.Proofs.Try.prog 23 ⟨[.xs .bool 256, .xs (.int .i32) 256], [.xs (.int .i32) 256], g_ref15_UseHint⟩) : p_law15_DringHints_E.Ok Go.Proofs.Try.prog := AE.of_ok (all_cons ty4_ok (all_cons ty21_ok (all_cons ty23_ok (all_cons ty31_ok all_nil)))) (all_cons ⟨he_dring_MakeHint, enters_dring_MakeHint⟩ (all_cons ⟨he_ref15_MakeHint, enters_ref15_MakeHint⟩ (all_cons ⟨he_law15_live, enters_law15_live⟩ (all_cons ⟨he_dring_UseHint, enters_dring_UseHint⟩ (all_cons ⟨he_ref15_UseHint, enters_ref15_UseHint⟩ all_nil)))))
theorem p_law15_DringHints_ok (he_dring_MakeHint : SigOk Go.Proofs.Try.prog 20 ⟨[.xs (.int .i32) 256, .xs (.int .i32) 256], [.xs .bool 256, .int .i64], g_dring_MakeHint⟩) (he_ref15_MakeHint : SigOk Go.Proofs.Try.prog 21 ⟨[.xs (.int .i32) 256, .xs (.int .i32) 256], [.xs .bool 256, .int .i64], g_ref15_MakeHint⟩) (he_law15_live : SigOk Go.Proofs.Try.prog 17 ⟨[], [.bool], g_law15_live⟩) (he_dring_UseHint : SigOk Go.Proofs.Try.prog 22 ⟨[.xs .bool 256, .xs (.int .i32) 256], [.xs (.int .i32) 256], g_dring_UseHint⟩) (he_ref15_UseHint : SigOk Go.Proofs.Try.prog 23 ⟨[.xs .bool 256, .xs (.int .i32) 256], [.xs (.int .i32) 256], g_ref15_UseHint⟩) {g : Ds [.xs (.int .i32) 256, .xs (.int .i32) 256, .xs .bool 256] → Option (Rs [.bool])} (hg : ∀ x r, g x = some r → ∃ N, p_law15_DringHints N x = some r) : SigOk Go.Proofs.Try.prog 5 ⟨[.xs (.int .i32) 256, .xs (.int .i32) 256, .xs .bool 256], [.bool], g⟩ :=
  fun_of (E := p_law15_DringHints_E) (H := p_law15_DringHints_H) (L := fun N => LT.nil) (c := p_law15_DringHints_c) (ks := p_law15_DringHints_ks) (rs := p_law15_DringHints_rs) (F := p_law15_DringHints) (p_law15_DringHints_Eok he_dring_MakeHint he_ref15_MakeHint he_law15_live he_dring_UseHint he_ref15_UseHint) mix Go.Proofs.Try.func5 (by kernel_rfl) (fun N => OkAll.nil) p_law15_DringHints_eq hg

/-! livery/liverylaw15.DringMends -/
noncomputable def p_law15_DringMends_E : AE := AE.of [(4, ty4), (21, ty21), (23, ty23), (31, ty31)] [(17, ⟨[], [.bool], g_law15_live⟩), (19, ⟨[.xs (.int .i32) 256], [.int .i32], g_dring_Norm⟩), (20, ⟨[.xs (.int .i32) 256, .xs (.int .i32) 256], [.xs .bool 256, .int .i64], g_dring_MakeHint⟩), (24, ⟨[.xs (.int .i32) 256, .xs (.int .i32) 256], [.xs (.int .i32) 256], g_dring_Add⟩), (15, ⟨[.xs (.int .i32) 256], [.xs (.int .i32) 256, .xs (.int .i32) 256], g_dring_Decompose⟩), (22, ⟨[.xs .bool 256, .xs (.int .i32) 256], [.xs (.int .i32) 256], g_dring_UseHint⟩)]
noncomputable def p_law15_DringMends_H : Hints := [(7, [3, 5, 6, 7, 9, 32]), (2000000, [3, 5, 6, 7, 9]), (2000001, [3, 5, 6, 7, 9, 32]), (3000000, [4])]
noncomputable def p_law15_DringMends_c : Code := (Go.Proofs.Try.f6).body.getD .skip
noncomputable def p_law15_DringMends_l7_S : Shape where
  h := { tmps := [.any, .any, .any, .sc (.ptr 0 0 false), .any, .sc (.ptr 1 0 false), .sc (.int .i64), .sc (.ptr 2 0 false), .any, .sc (.int .i64), .any, .any, .any, .any, .any, .any, .any, .any, .any, .any, .any, .any, .any, .any, .any, .any, .any, .any, .any, .any, .any, .any, .sc (.int .i64), .any, .any, .any, .any, .any, .any, .any, .any, .any, .any, .any, .any, .any, .any, .any, .any, .any, .any], mem := [.live [.xs (.int .i32) (some 256)] (.own), .live [.xs .bool (some 256)] (.own), .live [.xs (.int .i32) (some 256)] (.own)] }
  ks := [.int, .int, .int, .xs, .xs, .xs]
  st := fun x => { tmps := [.one .any, .one .any, .one .any, .one (.sc (.ptr 0 0 none)), .one .any, .one (.sc (.ptr 1 0 none)), .one (.sc (.int .i64 x.1)), .one (.sc (.ptr 2 0 none)), .one .any, .one (.sc (.int .i64 x.2.1)), .one .any, .one .any, .one .any, .one .any, .one .any, .one .any, .one .any, .one .any, .one .any, .one .any, .one .any, .one .any, .one .any, .one .any, .one .any, .one .any, .one .any, .one .any, .one .any, .one .any, .one .any, .one .any, .one (.sc (.int .i64 x.2.2.1)), .one .any, .one .any, .one .any, .one .any, .one .any, .one .any, .one .any, .one .any, .one .any, .one .any, .one .any, .one .any, .one .any, .one .any, .one .any, .one .any, .one .any, .one .any], mem := [.live { segs := [.xs (.int .i32) 256 x.2.2.2.1], own := .own }, .live { segs := [.xs .bool 256 x.2.2.2.2.1], own := .own }, .live { segs := [.xs (.int .i32) 256 x.2.2.2.2.2.1], own := .own }] }
noncomputable def p_law15_DringMends_l7_F (N : Nat) (β : Type) (x : (Int × Int × Int × List Int × List Int × List Int × Unit)) (kn : (Int × Int × Int × List Int × List Int × List Int × Unit) → Option β) (ke : ((Int × Int × List Int × List Int × List Int × Unit)) → Option β) : Option β :=
  if (x.2.2.1 < (256:Int)) then
    if 0 ≤ x.2.2.1 then (
    if x.2.2.1 < 256 then (
    if (x.2.2.1.toNat) < 256 then (
    if ((List.getD x.2.2.2.2.1 (x.2.2.1.toNat) 0) ≠ 0) then
      kn (x.1, (IntKind.i64.wrap (x.2.1 + (1:Int))), (IntKind.i64.wrap (x.2.2.1 + (1:Int))), x.2.2.2.1, x.2.2.2.2.1, x.2.2.2.2.2.1, ())
    else
      kn (x.1, x.2.1, (IntKind.i64.wrap (x.2.2.1 + (1:Int))), x.2.2.2.1, x.2.2.2.2.1, x.2.2.2.2.2.1, ())) else none) else none) else none
  else
    ke (x.1, x.2.1, x.2.2.2.1, x.2.2.2.2.1, x.2.2.2.2.2.1, ())
noncomputable def p_law15_DringMends_l7_go : Go' ((Int × Int × List Int × List Int × List Int × Unit)) := fun y K => K (.exit 0) { tmps := [.one .any, .one .any, .one .any, .one (.sc (.ptr 0 0 none)), .one .any, .one (.sc (.ptr 1 0 none)), .one (.sc (.int .i64 y.1)), .one (.sc (.ptr 2 0 none)), .one .any, .one (.sc (.int .i64 y.2.1)), .one .any, .one .any, .one .any, .one .any, .one .any, .one .any, .one .any, .one .any, .one .any, .one .any, .one .any, .one .any, .one .any, .one .any, .one .any, .one .any, .one .any, .one .any, .one .any, .one .any, .one .any, .one .any, .one .any, .one .any, .one .any, .one .any, .one .any, .one .any, .one .any, .one .any, .one .any, .one .any, .one .any, .one .any, .one .any, .one .any, .one .any, .one .any, .one .any, .one .any, .one .any], mem := [.live { segs := [.xs (.int .i32) 256 y.2.2.1], own := .own }, .live { segs := [.xs .bool 256 y.2.2.2.1], own := .own }, .live { segs := [.xs (.int .i32) 256 y.2.2.2.2.1], own := .own }] }
noncomputable def p_law15_DringMends_l7_L (N : Nat) : LT := upd (LT.nil) 7 (loopE p_law15_DringMends_l7_S N (p_law15_DringMends_l7_F N) p_law15_DringMends_l7_go)
theorem p_law15_DringMends_l7_ok (N : Nat) : OkAll p_law15_DringMends_E p_law15_DringMends_H N (p_law15_DringMends_l7_L N) (subs p_law15_DringMends_c) :=
  addLoop (c := theLoop 7 p_law15_DringMends_c) (OkAll.nil) (by kernel_rfl) (fun x => by kernel_rfl) (fun β x kn ke => by kernel_rfl)
abbrev p_law15_DringMends_ks : List Kd := [.xs (.int .i32) 256, .xs (.int .i32) 256]
abbrev p_law15_DringMends_rs : List Kd := [.bool]
noncomputable def p_law15_DringMends (N : Nat) (x : List Int × List Int × Unit) : Option (Bool) :=
  (g_law15_live (())).bind fun r1 => (
  if (¬ (r1 = true)) then
    (g_law15_live (())).bind fun r2 => (
    some (decide (r2 = true)))
  else
    (g_dring_Norm (x.1, ())).bind fun r3 => (
    if (r3 > (261888:Int)) then
      (g_law15_live (())).bind fun r4 => (
      some (decide (r4 = true)))
    else
      (g_dring_MakeHint (x.1, x.2.1, ())).bind fun r5 => (
      (g_dring_Add (x.2.1, x.1, ())).bind fun r6 => (
      (g_dring_Decompose (r6, ())).bind fun r7 => (
      iter (p_law15_DringMends_l7_F N) N (r5.2, (0:Int), (0:Int), x.2.1, r5.1, r7.1, ()) fun y8 => (
      (g_dring_UseHint (y8.2.2.2.1, y8.2.2.1, ())).bind fun r9 => (
      if (r9 = y8.2.2.2.2.1) then
        some (decide (y8.1 = y8.2.1))
      else
        some false)))))))
theorem p_law15_DringMends_eq (N : Nat) (x : Ds [.xs (.int .i32) 256, .xs (.int .i32) 256]) : funL p_law15_DringMends_E p_law15_DringMends_H (p_law15_DringMends_l7_L N) N Go.Proofs.Try.f6 p_law15_DringMends_c [.xs (.int .i32) 256, .xs (.int .i32) 256] [.bool] x = p_law15_DringMends N x := by kernel_rfl
theorem p_law15_DringMends_Eok (he_law15_live : SigOk Go.Proofs.Try.prog 17 ⟨[], [.bool], g_law15_live⟩) (he_dring_Norm : SigOk Go.Proofs.Try.prog 19 ⟨[.xs (.int .i32) 256], [.int .i32], g_dring_Norm⟩) (he_dring_MakeHint : SigOk Go.Proofs.Try.prog 20 ⟨[.xs (.int .i32) 256, .xs (.int .i32) 256], [.xs .bool 256, .int .i64], g_dring_MakeHint⟩) (he_dring_Add : SigOk Go.Proofs.Try.prog 24 ⟨[.xs (.int .i32) 256, .xs (.int .i32) 256], [.xs (.int .i32) 256], g_dring_Add⟩) (he_dring_Decompose : SigOk Go.Proofs.Try.prog 15 ⟨[.xs (.int .i32) 256], [.xs (.int .i32) 256, .xs (.int .i32) 256], g_dring_Decompose⟩) (he_dring_UseHint : SigOk Go.Proofs.Try.prog 22 ⟨[.xs .bool 256, .xs (.int .i32) 256], [.xs (.int .i32) 256], g_dring_UseHint⟩) : p_law15_DringMends_E.Ok Go.Proofs.Try.prog := AE.of_ok (all_cons ty4_ok (all_cons ty21_ok (all_cons ty23_ok (all_cons ty31_ok all_nil)))) (all_cons ⟨he_law15_live, enters_law15_live⟩ (all_cons ⟨he_dring_Norm, enters_dring_Norm⟩ (all_cons ⟨he_dring_MakeHint, enters_dring_MakeHint⟩ (all_cons ⟨he_dring_Add, enters_dring_Add⟩ (all_cons ⟨he_dring_Decompose, enters_dring_Decompose⟩ (all_cons ⟨he_dring_UseHint, enters_dring_UseHint⟩ all_nil))))))
theorem p_law15_DringMends_ok (he_law15_live : SigOk Go.Proofs.Try.prog 17 ⟨[], [.bool], g_law15_live⟩) (he_dring_Norm : SigOk Go.Proofs.Try.prog 19 ⟨[.xs (.int .i32) 256], [.int .i32], g_dring_Norm⟩) (he_dring_MakeHint : SigOk Go.Proofs.Try.prog 20 ⟨[.xs (.int .i32) 256, .xs (.int .i32) 256], [.xs .bool 256, .int .i64], g_dring_MakeHint⟩) (he_dring_Add : SigOk Go.Proofs.Try.prog 24 ⟨[.xs (.int .i32) 256, .xs (.int .i32) 256], [.xs (.int .i32) 256], g_dring_Add⟩) (he_dring_Decompose : SigOk Go.Proofs.Try.prog 15 ⟨[.xs (.int .i32) 256], [.xs (.int .i32) 256, .xs (.int .i32) 256], g_dring_Decompose⟩) (he_dring_UseHint : SigOk Go.Proofs.Try.prog 22 ⟨[.xs .bool 256, .xs (.int .i32) 256], [.xs (.int .i32) 256], g_dring_UseHint⟩) {g : Ds [.xs (.int .i32) 256, .xs (.int .i32) 256] → Option (Rs [.bool])} (hg : ∀ x r, g x = some r → ∃ N, p_law15_DringMends N x = some r) : SigOk Go.Proofs.Try.prog 6 ⟨[.xs (.int .i32) 256, .xs (.int .i32) 256], [.bool], g⟩ :=
  fun_of (E := p_law15_DringMends_E) (H := p_law15_DringMends_H) (L := fun N => p_law15_DringMends_l7_L N) (c := p_law15_DringMends_c) (ks := p_law15_DringMends_ks) (rs := p_law15_DringMends_rs) (F := p_law15_DringMends) (p_law15_DringMends_Eok he_law15_live he_dring_Norm he_dring_MakeHint he_dring_Add he_dring_Decompose he_dring_UseHint) mix Go.Proofs.Try.func6 (by kernel_rfl) (fun N => p_law15_DringMends_l7_ok N) p_law15_DringMends_eq hg
end Go.Ax.TryP
/-! ### Centred numbers, sums, hints: the printed functions -/
namespace Go.Ax.TryP

theorem rep256 : (List.replicate 256 (0 : Int)).length = 256 := List.length_replicate ..
theorem bs_wf {n : Nat} {a : List Int} : Kd.wf (.xs .bool n) a ↔ a.length = n ∧ ∀ z ∈ a, z = 0 ∨ z = 1 := by simp [Kd.wf]
theorem wf_d2 {a b : List Int} : wfAll [.xs (.int .i32) 256, .xs (.int .i32) 256] (a, b, ()) ↔ i32s 256 a ∧ i32s 256 b := by simp [wfAll, wf_i32s]
theorem fCen_b (z : Int) : -4190208 ≤ fCen z ∧ fCen z ≤ 4190208 := by unfold fCen; split <;> omega
theorem fDCen_i32 (a : List Int) : i32s 256 (fDCen a) := rows.range fun i _ => by have := fCen_b (a.getD i 0); omega
theorem fDCen_getD {a : List Int} {i : Nat} (hi : i < 256) : (fDCen a).getD i 0 = fCen (a.getD i 0) := dpoly_getD hi

theorem q_dring_centred : ∀ x r, g_dring_centred x = some r → ∃ N, p_dring_centred N x = some r := by
  refine Spec_of (ks := p_dring_centred_ks) (rs := p_dring_centred_rs) fun x hw _ => ⟨0, ?_⟩
  obtain ⟨(z : Int), u⟩ := x
  have hz := okInt_i32.1 hw.1
  simp only at hz
  have h1 : 0 ≤ z % 8380417 ∧ z % 8380417 ≤ 8380416 := by omega
  unfold p_dring_centred fCen
  simp (disch := omega) only [wrap_i64, at_below, Option.bind_some, wrap_i32]
  split <;> rfl
theorem at_centred {z : Int} (h1 : -2147483648 ≤ z) (h2 : z ≤ 2147483647) : g_dring_centred (z, ()) = some (fCen z) :=
  Spec_at (ks := p_dring_centred_ks) (rs := p_dring_centred_rs) (x := (z, ())) ⟨okInt_i32.2 ⟨h1, h2⟩, trivial⟩ trivial

theorem q_dring_each__dring_centred : ∀ x r, g_dring_each__dring_centred x = some r → ∃ N, p_dring_each__dring_centred N x = some r := by
  refine Spec_of (ks := p_dring_each__dring_centred_ks) (rs := p_dring_each__dring_centred_rs) fun x hw _ => ⟨257, ?_⟩
  obtain ⟨(a : List Int), u, u'⟩ := x
  have ha : i32s 256 a := wf_i32s.1 hw.1
  have hl := ha.1
  unfold p_dring_each__dring_centred
  refine (iter_run (s := fun i => (a, (i : Int), part (fun i => fCen (a.getD i 0)) i a, List.replicate 256 0, ())) (y := (fDCen a, List.replicate 256 0, ())) 256 ?_ ?_ 257 (by omega)).trans ?_
  · intro i hi kn
    have h0 := i32_at ha i
    unfold p_dring_each__dring_centred_l2_F
    simp (disch := omega) only [if_pos, wrap_i64, Int.toNat_natCast, at_centred, Option.bind_some]
    rw [part_set' (by omega) rfl, Int.natCast_add]
    rfl
  · intro kn
    unfold p_dring_each__dring_centred_l2_F
    simp (disch := omega) only [if_neg]
    rw [part_all hl]
    rfl
  · rfl
theorem q_dring_Center : ∀ x r, g_dring_Center x = some r → ∃ N, p_dring_Center N x = some r := by
  refine Spec_of (ks := p_dring_Center_ks) (rs := p_dring_Center_rs) fun x hw _ => ⟨0, ?_⟩
  obtain ⟨(a : List Int), u⟩ := x
  unfold p_dring_Center
  have h : g_dring_each__dring_centred (a, (), ()) = some (fDCen a) := Spec_at (ks := p_dring_each__dring_centred_ks) (rs := p_dring_each__dring_centred_rs) (x := (a, (), ())) ⟨hw.1, trivial, trivial⟩ trivial
  simp only
  rw [h]
  rfl
theorem at_Center {a : List Int} (h : i32s 256 a) : g_dring_Center (a, ()) = some (fDCen a) :=
  Spec_at (ks := p_dring_Center_ks) (rs := p_dring_Center_rs) (x := (a, ())) (wf_d1.2 h) trivial
theorem at_rCenter {a : List Int} (h : i32s 256 a) : g_ref15_Center (a, ()) = some (fDCen a) :=
  Spec_at (ks := p_ref15_Center_ks) (rs := p_ref15_Center_rs) (x := (a, ())) (wf_d1.2 h) trivial

theorem q_ref15_Center : ∀ x r, g_ref15_Center x = some r → ∃ N, p_ref15_Center N x = some r := by
  refine Spec_of (ks := p_ref15_Center_ks) (rs := p_ref15_Center_rs) fun x hw _ => ⟨257, ?_⟩
  obtain ⟨(a : List Int), u⟩ := x
  have ha := wf_d1.1 hw
  have hr := fDRed_i32 a
  have hl : (fDRed a).length = 256 := hr.1
  unfold p_ref15_Center
  simp only [at_rReduce ha, Option.bind_some]
  refine (iter_run (s := fun i => ((i : Int), part (fun i => fCen (a.getD i 0)) i (fDRed a), List.replicate 256 0, ())) (y := (fDCen a, List.replicate 256 0, ())) 256 ?_ ?_ 257 (by omega)).trans ?_
  · intro i hi kn
    have h0 := fDRed_at a i
    have hA : (fDRed a).getD i 0 = a.getD i 0 % 8380417 := fDRed_getD hi
    have g1 : (i : Int) < 256 := by omega
    have g0 : (0 : Int) ≤ i := by omega
    unfold p_ref15_Center_l3_F
    simp only [g1, g0, hi, if_true, Int.toNat_natCast, part_getD_self, hA]
    rw [hA] at h0
    simp (disch := omega) only [wrap_i32, wrap_i64]
    split
    · rename_i hgt
      rw [part_set' (by omega) (by unfold fCen; rw [if_pos hgt]), Int.natCast_add]
      rfl
    · rename_i hgt
      have e : part (fun i => fCen (a.getD i 0)) (i + 1) (fDRed a) = part (fun i => fCen (a.getD i 0)) i (fDRed a) := by
        rw [← part_set' (h := fun i => fCen (a.getD i 0)) (z := fCen (a.getD i 0)) (by omega) rfl]
        refine rows.ext (n := 256) (by rw [List.length_set, part_length (by omega)]; exact hl) (by rw [part_length (by omega)]; exact hl) fun j hj => ?_
        by_cases hji : i = j
        · subst hji
          rw [getD_set_eq (by rw [part_length (by omega)]; omega), part_getD_self, hA]
          unfold fCen; rw [if_neg hgt]
        · rw [getD_set_ne hji]
      rw [e, Int.natCast_add]
      rfl
  · intro kn
    unfold p_ref15_Center_l3_F
    simp (disch := omega) only [if_neg]
    rw [part_all hl]
    rfl
  · rfl

theorem normN_zero (a : List Int) : normN a 0 = 0 := by unfold normN; rfl
theorem normN_succ (a : List Int) (n : Nat) : normN a (n + 1) = if iabs (fCen (a.getD n 0)) > normN a n then iabs (fCen (a.getD n 0)) else normN a n := by
  unfold normN
  rw [List.range_succ, List.foldl_append]
  rfl
theorem normN_b (a : List Int) (n : Nat) : 0 ≤ normN a n ∧ normN a n ≤ 4190208 := by
  induction n with
  | zero => unfold normN; exact ⟨Int.le_refl 0, (by decide : (0 : Int) ≤ 4190208)⟩
  | succ n ih =>
    rw [normN_succ]
    have := fCen_b (a.getD n 0)
    unfold iabs
    split <;> split <;> omega
theorem normN_le {a : List Int} {m : Int} (h0 : 0 ≤ m) {n : Nat} : normN a n ≤ m ↔ ∀ i, i < n → iabs (fCen (a.getD i 0)) ≤ m := by
  induction n with
  | zero => exact ⟨fun _ i hi => by omega, fun _ => by unfold normN; exact h0⟩
  | succ n ih =>
    rw [normN_succ]
    constructor
    · intro h i hi
      by_cases e : i = n
      · subst e; split at h <;> omega
      · refine ih.1 ?_ i (by omega)
        split at h <;> omega
    · intro h
      have h1 := ih.2 fun i hi => h i (by omega)
      have h2 := h n (by omega)
      split <;> omega

theorem q_dring_Norm : ∀ x r, g_dring_Norm x = some r → ∃ N, p_dring_Norm N x = some r := by
  refine Spec_of (ks := p_dring_Norm_ks) (rs := p_dring_Norm_rs) fun x hw _ => ⟨257, ?_⟩
  obtain ⟨(a : List Int), u⟩ := x
  have ha := wf_d1.1 hw
  unfold p_dring_Norm
  simp only [at_Center ha, Option.bind_some]
  refine (iter_from (s := fun i => (normN a i, fDCen a, (i : Int), ())) (y := (fNorm a, ())) 256 (by rw [normN_zero]; rfl) ?_ ?_ 257 (by omega)).trans ?_
  · intro i hi kn
    have hb := normN_b a i
    have hc := fCen_b (a.getD i 0)
    unfold p_dring_Norm_l3_F
    simp (disch := omega) only [if_pos, wrap_i64, Int.toNat_natCast, fDCen_getD, wrap_i32]
    rw [normN_succ, Int.natCast_add]
    unfold iabs
    congr 2
    split <;> split <;> split <;> (try split) <;> omega
  · intro kn
    unfold p_dring_Norm_l3_F
    simp (disch := omega) only [if_neg]
    rfl
  · rfl
theorem at_Norm {a : List Int} (h : i32s 256 a) : g_dring_Norm (a, ()) = some (fNorm a) :=
  Spec_at (ks := p_dring_Norm_ks) (rs := p_dring_Norm_rs) (x := (a, ())) (wf_d1.2 h) trivial
theorem q_ref15_size : ∀ x r, g_ref15_size x = some r → ∃ N, p_ref15_size N x = some r := by
  refine Spec_of (ks := p_ref15_size_ks) (rs := p_ref15_size_rs) fun x hw hq => ⟨0, ?_⟩
  obtain ⟨(z : Int), u⟩ := x
  have hz := okInt_i32.1 hw.1
  have hq : -2147483648 < z := hq
  simp only at hz
  unfold p_ref15_size iabs
  simp only
  split
  · rw [wrap_i32 (by omega) (by omega)]; congr 1; omega
  · rfl
theorem at_size {z : Int} (h1 : -2147483648 < z) (h2 : z ≤ 2147483647) : g_ref15_size (z, ()) = some (iabs z) :=
  Spec_at (ks := p_ref15_size_ks) (rs := p_ref15_size_rs) (x := (z, ())) ⟨okInt_i32.2 ⟨show -2147483648 ≤ z by omega, h2⟩, trivial⟩ h1
theorem q_ref15_Norm : ∀ x r, g_ref15_Norm x = some r → ∃ N, p_ref15_Norm N x = some r := by
  refine Spec_of (ks := p_ref15_Norm_ks) (rs := p_ref15_Norm_rs) fun x hw _ => ⟨257, ?_⟩
  obtain ⟨(a : List Int), u⟩ := x
  have ha := wf_d1.1 hw
  unfold p_ref15_Norm
  simp only [at_rCenter ha, Option.bind_some]
  refine (iter_from (s := fun i => (normN a i, (i : Int), fDCen a, ())) (y := (fNorm a, ())) 256 (by rw [normN_zero]; rfl) ?_ ?_ 257 (by omega)).trans ?_
  · intro i hi kn
    have hc := fCen_b (a.getD i 0)
    unfold p_ref15_Norm_l4_F
    simp (disch := omega) only [if_pos, wrap_i64, Int.toNat_natCast, fDCen_getD, at_size, Option.bind_some]
    rw [normN_succ, Int.natCast_add]
    split <;> rfl
  · intro kn
    unfold p_ref15_Norm_l4_F
    simp (disch := omega) only [if_neg]
    rfl
  · rfl

theorem q_dring_Add : ∀ x r, g_dring_Add x = some r → ∃ N, p_dring_Add N x = some r := by
  refine Spec_of (ks := p_dring_Add_ks) (rs := p_dring_Add_rs) fun x hw _ => ⟨257, ?_⟩
  obtain ⟨(a : List Int), (b : List Int), u⟩ := x
  obtain ⟨ha, hb⟩ := wf_d2.1 hw
  have hl := ha.1
  unfold p_dring_Add
  refine (iter_run (s := fun i => ((i : Int), part (fun i => (a.getD i 0 + b.getD i 0) % 8380417) i a, b, List.replicate 256 0, ())) (y := (fDAdd a b, List.replicate 256 0, ())) 256 ?_ ?_ 257 (by omega)).trans ?_
  · intro i hi kn
    have h0 := i32_at ha i
    have h1 := i32_at hb i
    unfold p_dring_Add_l2_F
    simp (disch := omega) only [if_pos, wrap_i64, Int.toNat_natCast, part_getD_self, at_below, Option.bind_some]
    rw [part_set' (by omega) rfl, Int.natCast_add]
    rfl
  · intro kn
    unfold p_dring_Add_l2_F
    simp (disch := omega) only [if_neg]
    rw [part_all hl]
    rfl
  · rfl
theorem q_dring_Sub : ∀ x r, g_dring_Sub x = some r → ∃ N, p_dring_Sub N x = some r := by
  refine Spec_of (ks := p_dring_Sub_ks) (rs := p_dring_Sub_rs) fun x hw _ => ⟨257, ?_⟩
  obtain ⟨(a : List Int), (b : List Int), u⟩ := x
  obtain ⟨ha, hb⟩ := wf_d2.1 hw
  have hl := ha.1
  unfold p_dring_Sub
  refine (iter_run (s := fun i => ((i : Int), part (fun i => (a.getD i 0 - b.getD i 0) % 8380417) i a, b, List.replicate 256 0, ())) (y := (fDSub a b, List.replicate 256 0, ())) 256 ?_ ?_ 257 (by omega)).trans ?_
  · intro i hi kn
    have h0 := i32_at ha i
    have h1 := i32_at hb i
    unfold p_dring_Sub_l2_F
    simp (disch := omega) only [if_pos, wrap_i64, Int.toNat_natCast, part_getD_self, at_below, Option.bind_some]
    rw [part_set' (by omega) rfl, Int.natCast_add]
    rfl
  · intro kn
    unfold p_dring_Sub_l2_F
    simp (disch := omega) only [if_neg]
    rw [part_all hl]
    rfl
  · rfl
theorem q_ref15_Add : ∀ x r, g_ref15_Add x = some r → ∃ N, p_ref15_Add N x = some r := by
  refine Spec_of (ks := p_ref15_Add_ks) (rs := p_ref15_Add_rs) fun x hw _ => ⟨257, ?_⟩
  obtain ⟨(a : List Int), (b : List Int), u⟩ := x
  obtain ⟨ha, hb⟩ := wf_d2.1 hw
  have hl := ha.1
  unfold p_ref15_Add
  refine (iter_run (s := fun i => ((i : Int), part (fun i => (a.getD i 0 + b.getD i 0) % 8380417) i a, b, List.replicate 256 0, ())) (y := (fDAdd a b, List.replicate 256 0, ())) 256 ?_ ?_ 257 (by omega)).trans ?_
  · intro i hi kn
    have h0 := i32_at ha i
    have h1 := i32_at hb i
    have hm : 0 ≤ (a.getD i 0 + b.getD i 0) % 8380417 ∧ (a.getD i 0 + b.getD i 0) % 8380417 < 8380417 := by omega
    unfold p_ref15_Add_l2_F
    simp (disch := omega) only [if_pos, wrap_i64, Int.toNat_natCast, part_getD_self, at_mod, Option.bind_some, wrap_i32]
    rw [part_set' (by omega) rfl, Int.natCast_add]
    rfl
  · intro kn
    unfold p_ref15_Add_l2_F
    simp (disch := omega) only [if_neg]
    rw [part_all hl]
    rfl
  · rfl
theorem q_ref15_Sub : ∀ x r, g_ref15_Sub x = some r → ∃ N, p_ref15_Sub N x = some r := by
  refine Spec_of (ks := p_ref15_Sub_ks) (rs := p_ref15_Sub_rs) fun x hw _ => ⟨257, ?_⟩
  obtain ⟨(a : List Int), (b : List Int), u⟩ := x
  obtain ⟨ha, hb⟩ := wf_d2.1 hw
  have hl := ha.1
  unfold p_ref15_Sub
  refine (iter_run (s := fun i => ((i : Int), part (fun i => (a.getD i 0 - b.getD i 0) % 8380417) i a, b, List.replicate 256 0, ())) (y := (fDSub a b, List.replicate 256 0, ())) 256 ?_ ?_ 257 (by omega)).trans ?_
  · intro i hi kn
    have h0 := i32_at ha i
    have h1 := i32_at hb i
    have hm : 0 ≤ (a.getD i 0 - b.getD i 0) % 8380417 ∧ (a.getD i 0 - b.getD i 0) % 8380417 < 8380417 := by omega
    unfold p_ref15_Sub_l2_F
    simp (disch := omega) only [if_pos, wrap_i64, Int.toNat_natCast, part_getD_self, at_mod, Option.bind_some, wrap_i32]
    rw [part_set' (by omega) rfl, Int.natCast_add]
    rfl
  · intro kn
    unfold p_ref15_Sub_l2_F
    simp (disch := omega) only [if_neg]
    rw [part_all hl]
    rfl
  · rfl
theorem fDAdd_i32 (a b : List Int) : i32s 256 (fDAdd a b) := rows.range fun i _ => by omega
theorem fDSub_i32 (a b : List Int) : i32s 256 (fDSub a b) := rows.range fun i _ => by omega
theorem fDAdd_getD {a b : List Int} {i : Nat} (hi : i < 256) : (fDAdd a b).getD i 0 = (a.getD i 0 + b.getD i 0) % 8380417 := dpoly_getD hi
theorem at_Add {a b : List Int} (h : i32s 256 a) (h' : i32s 256 b) : g_dring_Add (a, b, ()) = some (fDAdd a b) :=
  Spec_at (ks := p_dring_Add_ks) (rs := p_dring_Add_rs) (x := (a, b, ())) (wf_d2.2 ⟨h, h'⟩) trivial
theorem at_rAdd {a b : List Int} (h : i32s 256 a) (h' : i32s 256 b) : g_ref15_Add (a, b, ()) = some (fDAdd a b) :=
  Spec_at (ks := p_ref15_Add_ks) (rs := p_ref15_Add_rs) (x := (a, b, ())) (wf_d2.2 ⟨h, h'⟩) trivial

theorem cntN_zero (h : Nat → Int) : cntN h 0 = 0 := by unfold cntN; rfl
theorem cntN_succ (h : Nat → Int) (n : Nat) : cntN h (n + 1) = if h n ≠ 0 then cntN h n + 1 else cntN h n := by
  unfold cntN
  rw [List.range_succ, List.foldl_append]
  rfl
theorem cntN_b (h : Nat → Int) (n : Nat) : 0 ≤ cntN h n ∧ cntN h n ≤ n := by
  induction n with
  | zero => unfold cntN; exact ⟨Int.le_refl 0, Int.le_refl 0⟩
  | succ n ih =>
    rw [cntN_succ]
    split <;> omega
theorem hintAt_01 (z r : List Int) (i : Nat) : hintAt z r i = 0 ∨ hintAt z r i = 1 := by unfold hintAt; split <;> simp

theorem q_dring_MakeHint : ∀ x r, g_dring_MakeHint x = some r → ∃ N, p_dring_MakeHint N x = some r := by
  refine Spec_of (ks := p_dring_MakeHint_ks) (rs := p_dring_MakeHint_rs) fun x hw _ => ⟨257, ?_⟩
  obtain ⟨(z : List Int), (r : List Int), u⟩ := x
  obtain ⟨hz, hr⟩ := wf_d2.1 hw
  unfold p_dring_MakeHint
  simp only [at_Dec hr, at_Add hr hz, at_Dec (fDAdd_i32 r z), Option.bind_some]
  have hZ := rep256
  generalize List.replicate 256 (0 : Int) = Z at hZ ⊢
  refine (iter_from (s := fun i => (cntN (hintAt z r) i, (i : Int), Z, part (hintAt z r) i Z, (fDec r).1, (fDec (fDAdd r z)).1, ())) (y := (cntN (hintAt z r) 256, Z, dpoly (hintAt z r), ())) 256 (by rw [cntN_zero]; rfl) ?_ ?_ 257 (by omega)).trans ?_
  · intro i hi kn
    have hb := cntN_b (hintAt z r) i
    have g1 : (i : Int) < 256 := by omega
    have g0 : (0 : Int) ≤ i := by omega
    have e1 : (fDec r).1.getD i 0 = fDh (r.getD i 0) := by rw [show (fDec r).1 = dpoly fun i => fDh (r.getD i 0) from rfl, dpoly_getD hi]
    have e2 : (fDec (fDAdd r z)).1.getD i 0 = fDh ((r.getD i 0 + z.getD i 0) % 8380417) := by
      rw [show (fDec (fDAdd r z)).1 = dpoly fun i => fDh ((fDAdd r z).getD i 0) from rfl, dpoly_getD hi, fDAdd_getD hi]
    have hpl : (part (hintAt z r) i Z).length = 256 := by rw [part_length (by omega), hZ]
    have e3 : (part (hintAt z r) i Z).set i (if fDh (r.getD i 0) ≠ fDh ((r.getD i 0 + z.getD i 0) % 8380417) then (1 : Int) else 0) = part (hintAt z r) (i + 1) Z := part_set' (by omega) rfl
    have e4 : (part (hintAt z r) (i + 1) Z).getD i 0 = hintAt z r i := part_getD_lt (by omega)
    unfold p_dring_MakeHint_l6_F
    simp only [g1, g0, hi, if_true, Int.toNat_natCast, e1, e2, e3, e4]
    simp (disch := omega) only [wrap_i64]
    rw [cntN_succ, Int.natCast_add]
    split <;> rfl
  · intro kn
    unfold p_dring_MakeHint_l6_F
    simp (disch := omega) only [if_neg]
    rw [part_all hZ]
    rfl
  · rfl
theorem q_ref15_MakeHint : ∀ x r, g_ref15_MakeHint x = some r → ∃ N, p_ref15_MakeHint N x = some r := by
  refine Spec_of (ks := p_ref15_MakeHint_ks) (rs := p_ref15_MakeHint_rs) fun x hw _ => ⟨257, ?_⟩
  obtain ⟨(z : List Int), (r : List Int), u⟩ := x
  obtain ⟨hz, hr⟩ := wf_d2.1 hw
  unfold p_ref15_MakeHint
  simp only [at_rDec hr, at_rAdd hr hz, at_rDec (fDAdd_i32 r z), Option.bind_some]
  have hZ := rep256
  have hZ0 : ∀ i, (List.replicate 256 (0 : Int)).getD i 0 = 0 := getD_replicate 256
  generalize List.replicate 256 (0 : Int) = Z at hZ hZ0 ⊢
  refine (iter_from (s := fun i => (cntN (hintAt z r) i, (i : Int), Z, (fDec r).1, (fDec (fDAdd r z)).1, part (hintAt z r) i Z, ())) (y := (cntN (hintAt z r) 256, Z, dpoly (hintAt z r), ())) 256 (by rw [cntN_zero]; rfl) ?_ ?_ 257 (by omega)).trans ?_
  · intro i hi kn
    have hb := cntN_b (hintAt z r) i
    have g1 : (i : Int) < 256 := by omega
    have g0 : (0 : Int) ≤ i := by omega
    have e1 : (fDec r).1.getD i 0 = fDh (r.getD i 0) := by rw [show (fDec r).1 = dpoly fun i => fDh (r.getD i 0) from rfl, dpoly_getD hi]
    have e2 : (fDec (fDAdd r z)).1.getD i 0 = fDh ((r.getD i 0 + z.getD i 0) % 8380417) := by
      rw [show (fDec (fDAdd r z)).1 = dpoly fun i => fDh ((fDAdd r z).getD i 0) from rfl, dpoly_getD hi, fDAdd_getD hi]
    have hpl : (part (hintAt z r) i Z).length = 256 := by rw [part_length (by omega), hZ]
    have e3 : hintAt z r i = if fDh (r.getD i 0) ≠ fDh ((r.getD i 0 + z.getD i 0) % 8380417) then (1 : Int) else 0 := rfl
    unfold p_ref15_MakeHint_l6_F
    simp only [g1, g0, hi, if_true, Int.toNat_natCast, e1, e2]
    simp (disch := omega) only [wrap_i64]
    rw [cntN_succ, Int.natCast_add]
    split
    · rename_i hne
      rw [if_pos hne] at e3
      rw [part_set' (h := hintAt z r) (by omega) e3.symm, e3]
      rfl
    · rename_i hne
      rw [if_neg hne] at e3
      have e5 : part (hintAt z r) (i + 1) Z = part (hintAt z r) i Z := by
        rw [← part_set' (h := hintAt z r) (z := 0) (by omega) e3.symm]
        refine rows.ext (n := 256) (by rw [List.length_set, hpl]) hpl fun j hj => ?_
        by_cases hji : i = j
        · subst hji; rw [getD_set_eq (by omega), part_getD_self, hZ0]
        · rw [getD_set_ne hji]
      rw [e5, e3]
      rfl
  · intro kn
    unfold p_ref15_MakeHint_l6_F
    simp (disch := omega) only [if_neg]
    rw [part_all hZ]
    rfl
  · rfl
end Go.Ax.TryP
/-! ### Hints used; the laws on parts, hints and mending -/
namespace Go.Ax.TryP

theorem wf_hd {h r : List Int} : wfAll [.xs .bool 256, .xs (.int .i32) 256] (h, r, ()) ↔ (h.length = 256 ∧ ∀ z ∈ h, z = 0 ∨ z = 1) ∧ i32s 256 r := by simp only [wfAll, wf_i32s, bs_wf, and_true]
theorem fDh_b (z : Int) : 0 ≤ fDh z ∧ fDh z ≤ 15 := by
  unfold fDh fDl0 fNear
  split <;> split at * <;> omega
theorem fDl_b (z : Int) : -261888 ≤ fDl z ∧ fDl z ≤ 261888 := by
  unfold fDl fDl0 fNear
  split <;> split at * <;> omega

theorem q_dring_UseHint : ∀ x r, g_dring_UseHint x = some r → ∃ N, p_dring_UseHint N x = some r := by
  refine Spec_of (ks := p_dring_UseHint_ks) (rs := p_dring_UseHint_rs) fun x hw _ => ⟨257, ?_⟩
  obtain ⟨(h : List Int), (r : List Int), u⟩ := x
  obtain ⟨hh, hr⟩ := wf_hd.1 hw
  unfold p_dring_UseHint
  simp only [at_Dec hr, Option.bind_some]
  have hlen : (fDec r).1.length = 256 := dpoly_len _
  refine (iter_run (s := fun i => (h, (i : Int), List.replicate 256 0, part (fun i => useAt (h.getD i 0) (r.getD i 0)) i (fDec r).1, (fDec r).2, ())) (y := (List.replicate 256 0, fUse h r, ())) 256 ?_ ?_ 257 (by omega)).trans ?_
  · intro i hi kn
    have g1 : (i : Int) < 256 := by omega
    have g0 : (0 : Int) ≤ i := by omega
    have e1 : (fDec r).1.getD i 0 = fDh (r.getD i 0) := by rw [show (fDec r).1 = dpoly fun i => fDh (r.getD i 0) from rfl, dpoly_getD hi]
    have e2 : (fDec r).2.getD i 0 = fDl (r.getD i 0) := by rw [show (fDec r).2 = dpoly fun i => fDl (r.getD i 0) from rfl, dpoly_getD hi]
    have hb := fDh_b (r.getD i 0)
    have hpl : (part (fun i => useAt (h.getD i 0) (r.getD i 0)) i (fDec r).1).length = 256 := by rw [part_length (by omega)]; exact hlen
    unfold p_dring_UseHint_l3_F
    simp only [g1, g0, hi, if_true, Int.toNat_natCast, part_getD_self, e1, e2]
    simp (disch := omega) only [wrap_i64, wrap_i32, tmod_pos]
    by_cases hz : h.getD i 0 = 0
    · have e5 : part (fun i => useAt (h.getD i 0) (r.getD i 0)) (i + 1) (fDec r).1 = part (fun i => useAt (h.getD i 0) (r.getD i 0)) i (fDec r).1 := by
        rw [← part_set' (h := fun i => useAt (h.getD i 0) (r.getD i 0)) (z := fDh (r.getD i 0)) (by omega) (by unfold useAt; rw [hz]; rfl)]
        refine rows.ext (n := 256) (by rw [List.length_set, hpl]) hpl fun j hj => ?_
        by_cases hji : i = j
        · subst hji; rw [getD_set_eq (by omega), part_getD_self, e1]
        · rw [getD_set_ne hji]
      simp only [hz, ne_eq, not_true_eq_false, if_false]
      rw [e5, Int.natCast_add]
      rfl
    · simp only [hz, ne_eq, not_false_eq_true, if_true]
      split
      · rename_i hgt
        rw [part_set' (h := fun i => useAt (h.getD i 0) (r.getD i 0)) (by omega) (by unfold useAt; rw [if_pos hz, if_pos hgt]), Int.natCast_add]
        rfl
      · rename_i hgt
        rw [part_set' (h := fun i => useAt (h.getD i 0) (r.getD i 0)) (by omega) (by unfold useAt; rw [if_pos hz, if_neg hgt]; congr 1; omega), Int.natCast_add]
        rfl
  · intro kn
    unfold p_dring_UseHint_l3_F
    simp (disch := omega) only [if_neg]
    rw [part_all hlen]
    rfl
  · rfl
theorem q_ref15_UseHint : ∀ x r, g_ref15_UseHint x = some r → ∃ N, p_ref15_UseHint N x = some r := by
  refine Spec_of (ks := p_ref15_UseHint_ks) (rs := p_ref15_UseHint_rs) fun x hw _ => ⟨257, ?_⟩
  obtain ⟨(h : List Int), (r : List Int), u⟩ := x
  obtain ⟨hh, hr⟩ := wf_hd.1 hw
  unfold p_ref15_UseHint
  simp only [at_rDec hr, Option.bind_some]
  have hlen : (fDec r).1.length = 256 := dpoly_len _
  refine (iter_run (s := fun i => ((i : Int), h, List.replicate 256 0, part (fun i => useAt (h.getD i 0) (r.getD i 0)) i (fDec r).1, (fDec r).2, ())) (y := (List.replicate 256 0, fUse h r, ())) 256 ?_ ?_ 257 (by omega)).trans ?_
  · intro i hi kn
    have g1 : (i : Int) < 256 := by omega
    have g0 : (0 : Int) ≤ i := by omega
    have e1 : (fDec r).1.getD i 0 = fDh (r.getD i 0) := by rw [show (fDec r).1 = dpoly fun i => fDh (r.getD i 0) from rfl, dpoly_getD hi]
    have e2 : (fDec r).2.getD i 0 = fDl (r.getD i 0) := by rw [show (fDec r).2 = dpoly fun i => fDl (r.getD i 0) from rfl, dpoly_getD hi]
    have hb := fDh_b (r.getD i 0)
    have hpl : (part (fun i => useAt (h.getD i 0) (r.getD i 0)) i (fDec r).1).length = 256 := by rw [part_length (by omega)]; exact hlen
    unfold p_ref15_UseHint_l3_F
    simp only [g1, g0, hi, if_true, Int.toNat_natCast, part_getD_self, e1, e2]
    simp (disch := omega) only [wrap_i64, wrap_i32, tmod_pos]
    by_cases hz : h.getD i 0 = 0
    · have e5 : part (fun i => useAt (h.getD i 0) (r.getD i 0)) (i + 1) (fDec r).1 = part (fun i => useAt (h.getD i 0) (r.getD i 0)) i (fDec r).1 := by
        rw [← part_set' (h := fun i => useAt (h.getD i 0) (r.getD i 0)) (z := fDh (r.getD i 0)) (by omega) (by unfold useAt; rw [hz]; rfl)]
        refine rows.ext (n := 256) (by rw [List.length_set, hpl]) hpl fun j hj => ?_
        by_cases hji : i = j
        · subst hji; rw [getD_set_eq (by omega), part_getD_self, e1]
        · rw [getD_set_ne hji]
      simp only [hz, ne_eq, not_true_eq_false, if_false]
      rw [e5, Int.natCast_add]
      rfl
    · simp only [hz, ne_eq, not_false_eq_true, if_true]
      split
      · rename_i hgt
        rw [part_set' (h := fun i => useAt (h.getD i 0) (r.getD i 0)) (by omega) (by unfold useAt; rw [if_pos hz, if_pos hgt]), Int.natCast_add]
        rfl
      · rename_i hgt
        rw [part_set' (h := fun i => useAt (h.getD i 0) (r.getD i 0)) (by omega) (by unfold useAt; rw [if_pos hz, if_neg hgt]), Int.natCast_add]
        rfl
  · intro kn
    unfold p_ref15_UseHint_l3_F
    simp (disch := omega) only [if_neg]
    rw [part_all hlen]
    rfl
  · rfl

theorem at_Use {h r : List Int} (hh : h.length = 256 ∧ ∀ z ∈ h, z = 0 ∨ z = 1) (hr : i32s 256 r) : g_dring_UseHint (h, r, ()) = some (fUse h r) :=
  Spec_at (ks := p_dring_UseHint_ks) (rs := p_dring_UseHint_rs) (x := (h, r, ())) (wf_hd.2 ⟨hh, hr⟩) trivial
theorem at_rUse {h r : List Int} (hh : h.length = 256 ∧ ∀ z ∈ h, z = 0 ∨ z = 1) (hr : i32s 256 r) : g_ref15_UseHint (h, r, ()) = some (fUse h r) :=
  Spec_at (ks := p_ref15_UseHint_ks) (rs := p_ref15_UseHint_rs) (x := (h, r, ())) (wf_hd.2 ⟨hh, hr⟩) trivial
theorem at_Make {z r : List Int} (hz : i32s 256 z) (hr : i32s 256 r) : g_dring_MakeHint (z, r, ()) = some (fHint z r) :=
  Spec_at (ks := p_dring_MakeHint_ks) (rs := p_dring_MakeHint_rs) (x := (z, r, ())) (wf_d2.2 ⟨hz, hr⟩) trivial
theorem at_rMake {z r : List Int} (hz : i32s 256 z) (hr : i32s 256 r) : g_ref15_MakeHint (z, r, ()) = some (fHint z r) :=
  Spec_at (ks := p_ref15_MakeHint_ks) (rs := p_ref15_MakeHint_rs) (x := (z, r, ())) (wf_d2.2 ⟨hz, hr⟩) trivial
theorem at_live : g_law15_live () = some true := Spec_at (ks := []) (rs := [.bool]) (x := ()) trivial trivial

theorem q_law15_DringHints : ∀ x r, g_law15_DringHints x = some r → ∃ N, p_law15_DringHints N x = some r := by
  refine Spec_of (ks := p_law15_DringHints_ks) (rs := p_law15_DringHints_rs) fun x hw _ => ⟨0, ?_⟩
  obtain ⟨(z : List Int), (r : List Int), (h : List Int), u⟩ := x
  obtain ⟨hz, hr, hh, _⟩ := hw
  have hz := wf_i32s.1 hz
  have hr := wf_i32s.1 hr
  have hh := bs_wf.1 hh
  unfold p_law15_DringHints
  simp only [at_Make hz hr, at_rMake hz hr, at_live, at_Use hh hr, at_rUse hh hr, Option.bind_some, if_true, decide_true]

theorem hint_ok (z r : List Int) : (fHint z r).1.length = 256 ∧ ∀ y ∈ (fHint z r).1, y = 0 ∨ y = 1 := by
  refine ⟨dpoly_len _, fun y hy => ?_⟩
  obtain ⟨i, _, rfl⟩ := List.mem_map.1 hy
  exact hintAt_01 z r i
theorem fPl_b (z : Int) : -4095 ≤ fPl z ∧ fPl z ≤ 4096 := by unfold fPl fNear; split <;> omega
theorem fPh_b (z : Int) : 0 ≤ fPh z ∧ fPh z ≤ 1023 := by unfold fPh fPl fNear; split <;> omega
theorem fP_sum (z : Int) : fPh z * 8192 + fPl z - z % 8380417 = 0 := by unfold fPh fPl fNear; split <;> omega
theorem fD_sum (z : Int) : fDh z * 2 * 261888 + fDl z - z % 8380417 = 0 ∨ fDh z * 2 * 261888 + fDl z - z % 8380417 = -8380417 := by
  unfold fDh fDl fDl0 fNear
  split <;> split at * <;> omega
theorem norm_ok {f : Nat → Int} {m : Int} (h0 : 0 ≤ m) (hm : m ≤ 4190208) (h : ∀ i, i < 256 → -m ≤ f i ∧ f i ≤ m) : fNorm (dpoly f) ≤ m := by
  refine (normN_le h0).2 fun i hi => ?_
  rw [dpoly_getD hi]
  have := h i hi
  unfold iabs fCen
  split <;> split at * <;> omega

theorem q_law15_DringParts : ∀ x r, g_law15_DringParts x = some r → ∃ N, p_law15_DringParts N x = some r := by
  refine Spec_of (ks := p_law15_DringParts_ks) (rs := p_law15_DringParts_rs) fun x hw _ => ⟨257, ?_⟩
  obtain ⟨(a : List Int), u⟩ := x
  have ha := wf_d1.1 hw
  have i1 : i32s 256 (fP2R a).2 := rows.range fun i _ => by have := fPl_b (a.getD i 0); omega
  have i2 : i32s 256 (fDec a).2 := rows.range fun i _ => by have := fDl_b (a.getD i 0); omega
  have n1 : fNorm (fP2R a).2 ≤ 4096 := norm_ok (f := fun i => fPl (a.getD i 0)) (by omega) (by omega) fun i _ => by have := fPl_b (a.getD i 0); omega
  have n2 : fNorm (fDec a).2 ≤ 261888 := norm_ok (f := fun i => fDl (a.getD i 0)) (by omega) (by omega) fun i _ => by have := fDl_b (a.getD i 0); omega
  unfold p_law15_DringParts
  simp only [at_Reduce ha, at_P2R ha, at_Dec ha, at_live, at_Norm i1, at_Norm i2, Option.bind_some, not_true_eq_false, if_false]
  rw [if_neg (by omega), if_neg (by omega)]
  refine (iter_run (s := fun i => ((i : Int), fDRed a, (fP2R a).1, (fP2R a).2, (fDec a).1, (fDec a).2, ())) (y := .inr ()) 256 ?_ ?_ 257 (by omega)).trans ?_
  · intro i hi kn
    have g1 : (i : Int) < 256 := by omega
    have g0 : (0 : Int) ≤ i := by omega
    have e0 : (fDRed a).getD i 0 = a.getD i 0 % 8380417 := fDRed_getD hi
    have e1 : (fP2R a).1.getD i 0 = fPh (a.getD i 0) := by rw [show (fP2R a).1 = dpoly fun i => fPh (a.getD i 0) from rfl, dpoly_getD hi]
    have e2 : (fP2R a).2.getD i 0 = fPl (a.getD i 0) := by rw [show (fP2R a).2 = dpoly fun i => fPl (a.getD i 0) from rfl, dpoly_getD hi]
    have e3 : (fDec a).1.getD i 0 = fDh (a.getD i 0) := by rw [show (fDec a).1 = dpoly fun i => fDh (a.getD i 0) from rfl, dpoly_getD hi]
    have e4 : (fDec a).2.getD i 0 = fDl (a.getD i 0) := by rw [show (fDec a).2 = dpoly fun i => fDl (a.getD i 0) from rfl, dpoly_getD hi]
    have b1 := fPl_b (a.getD i 0)
    have b2 := fPh_b (a.getD i 0)
    have b3 := fDl_b (a.getD i 0)
    have b4 := fDh_b (a.getD i 0)
    have s1 := fP_sum (a.getD i 0)
    have s2 := fD_sum (a.getD i 0)
    unfold p_law15_DringParts_l7_F
    simp only [g1, g0, hi, if_true, Int.toNat_natCast, e0, e1, e2, e3, e4]
    have b0 : 0 ≤ a.getD i 0 % 8380417 ∧ a.getD i 0 % 8380417 < 8380417 := by omega
    generalize a.getD i 0 % 8380417 = R at s1 s2 b0
    generalize fPl (a.getD i 0) = p1 at *
    generalize fPh (a.getD i 0) = p2 at *
    generalize fDl (a.getD i 0) = d1 at *
    generalize fDh (a.getD i 0) = d2 at *
    simp (disch := omega) only [wrap_i64]
    rw [if_neg (by omega)]
    by_cases hs : d2 * 2 * 261888 + d1 - R = 0
    · simp (disch := omega) only [if_neg]
      rfl
    · rw [if_pos hs]
      simp (disch := omega) only [if_neg]
      rfl
  · intro kn
    unfold p_law15_DringParts_l7_F
    simp (disch := omega) only [if_neg]
  · rfl

theorem mend_one {r z : Int} (hz : -261888 ≤ fCen z ∧ fCen z ≤ 261888) : useAt (if fDh r ≠ fDh ((r + z) % 8380417) then 1 else 0) r = fDh ((r + z) % 8380417) := by
  have hy : ((r + z) % 8380417 = r % 8380417 + fCen z) ∨ ((r + z) % 8380417 = r % 8380417 + fCen z - 8380417) ∨ ((r + z) % 8380417 = r % 8380417 + fCen z + 8380417) := by
    unfold fCen at *
    split <;> omega
  have hm : ((r + z) % 8380417) % 8380417 = (r + z) % 8380417 := by omega
  have hR : 0 ≤ r % 8380417 ∧ r % 8380417 < 8380417 := by omega
  have hY : 0 ≤ (r + z) % 8380417 ∧ (r + z) % 8380417 < 8380417 := by omega
  unfold useAt
  by_cases he : fDh r = fDh ((r + z) % 8380417)
  · simp [he]
  · simp only [he, ne_eq, not_false_eq_true, if_true]
    rw [if_pos (by omega)]
    unfold fDh fDl fDl0 fNear at *
    rw [hm] at *
    generalize r % 8380417 = R at *
    generalize (r + z) % 8380417 = Y at *
    generalize fCen z = c at *
    split at * <;> split at * <;> split at * <;> split at * <;> (try split at *) <;> omega

theorem q_law15_DringMends : ∀ x r, g_law15_DringMends x = some r → ∃ N, p_law15_DringMends N x = some r := by
  refine Spec_of (ks := p_law15_DringMends_ks) (rs := p_law15_DringMends_rs) fun x hw _ => ⟨257, ?_⟩
  obtain ⟨(z : List Int), (r : List Int), u⟩ := x
  obtain ⟨hz, hr⟩ := wf_d2.1 hw
  unfold p_law15_DringMends
  simp only [at_live, at_Norm hz, Option.bind_some, not_true_eq_false, if_false]
  by_cases hn : fNorm z > 261888
  · rw [if_pos hn]; rfl
  rw [if_neg hn]
  simp only [at_Make hz hr, at_Add hr hz, at_Dec (fDAdd_i32 r z), Option.bind_some]
  have hu : fUse (fHint z r).1 r = (fDec (fDAdd r z)).1 := by
    refine rows.ext (n := 256) (dpoly_len _) (dpoly_len _) fun i hi => ?_
    have hc : iabs (fCen (z.getD i 0)) ≤ 261888 := (normN_le (by omega)).1 (show normN z 256 ≤ 261888 by have : fNorm z = normN z 256 := rfl; omega) i hi
    have hc2 : -261888 ≤ fCen (z.getD i 0) ∧ fCen (z.getD i 0) ≤ 261888 := by unfold iabs at hc; split at hc <;> omega
    rw [show fUse (fHint z r).1 r = dpoly fun i => useAt ((fHint z r).1.getD i 0) (r.getD i 0) from rfl, dpoly_getD hi,
      show (fDec (fDAdd r z)).1 = dpoly fun i => fDh ((fDAdd r z).getD i 0) from rfl, dpoly_getD hi, fDAdd_getD hi,
      show (fHint z r).1 = dpoly (hintAt z r) from rfl, dpoly_getD hi]
    exact mend_one hc2
  refine (iter_from (s := fun i => ((fHint z r).2, cntN (hintAt z r) i, (i : Int), r, (fHint z r).1, (fDec (fDAdd r z)).1, ())) (y := ((fHint z r).2, cntN (hintAt z r) 256, r, (fHint z r).1, (fDec (fDAdd r z)).1, ())) 256 (by rw [cntN_zero]; rfl) ?_ ?_ 257 (by omega)).trans ?_
  · intro i hi kn
    have hb := cntN_b (hintAt z r) i
    have g1 : (i : Int) < 256 := by omega
    have g0 : (0 : Int) ≤ i := by omega
    have e1 : (fHint z r).1.getD i 0 = hintAt z r i := by rw [show (fHint z r).1 = dpoly (hintAt z r) from rfl, dpoly_getD hi]
    unfold p_law15_DringMends_l7_F
    simp only [g1, g0, hi, if_true, Int.toNat_natCast, e1]
    simp (disch := omega) only [wrap_i64]
    rw [cntN_succ, Int.natCast_add]
    split <;> rfl
  · intro kn
    unfold p_law15_DringMends_l7_F
    simp (disch := omega) only [if_neg]
  · simp only [at_Use (hint_ok z r) hr, Option.bind_some, hu, if_true]
    have : (fHint z r).2 = cntN (hintAt z r) 256 := rfl
    simp only [this, decide_true]
end Go.Ax.TryP
/-! Printed by program (wires.py): the functions keep their signatures. -/
namespace Go.Ax.TryP
theorem s_dring_centred : SigOk Go.Proofs.Try.prog 67 ⟨[.int .i32], [.int .i32], g_dring_centred⟩ := p_dring_centred_ok s_dring_below q_dring_centred
theorem s_dring_each__dring_centred : SigOk Go.Proofs.Try.prog 57 ⟨[.xs (.int .i32) 256, .fnc 67], [.xs (.int .i32) 256], g_dring_each__dring_centred⟩ := p_dring_each__dring_centred_ok s_dring_centred q_dring_each__dring_centred
theorem s_dring_Center : SigOk Go.Proofs.Try.prog 41 ⟨[.xs (.int .i32) 256], [.xs (.int .i32) 256], g_dring_Center⟩ := p_dring_Center_ok s_dring_each__dring_centred q_dring_Center
theorem s_ref15_Center : SigOk Go.Proofs.Try.prog 42 ⟨[.xs (.int .i32) 256], [.xs (.int .i32) 256], g_ref15_Center⟩ := p_ref15_Center_ok s_ref15_Reduce q_ref15_Center
theorem s_dring_Norm : SigOk Go.Proofs.Try.prog 19 ⟨[.xs (.int .i32) 256], [.int .i32], g_dring_Norm⟩ := p_dring_Norm_ok s_dring_Center q_dring_Norm
theorem s_ref15_size : SigOk Go.Proofs.Try.prog 68 ⟨[.int .i32], [.int .i32], g_ref15_size⟩ := p_ref15_size_ok q_ref15_size
theorem s_ref15_Norm : SigOk Go.Proofs.Try.prog 43 ⟨[.xs (.int .i32) 256], [.int .i32], g_ref15_Norm⟩ := p_ref15_Norm_ok s_ref15_Center s_ref15_size q_ref15_Norm
theorem s_dring_Add : SigOk Go.Proofs.Try.prog 24 ⟨[.xs (.int .i32) 256, .xs (.int .i32) 256], [.xs (.int .i32) 256], g_dring_Add⟩ := p_dring_Add_ok s_dring_below q_dring_Add
theorem s_ref15_Add : SigOk Go.Proofs.Try.prog 44 ⟨[.xs (.int .i32) 256, .xs (.int .i32) 256], [.xs (.int .i32) 256], g_ref15_Add⟩ := p_ref15_Add_ok s_ref15_mod q_ref15_Add
theorem s_dring_Sub : SigOk Go.Proofs.Try.prog 39 ⟨[.xs (.int .i32) 256, .xs (.int .i32) 256], [.xs (.int .i32) 256], g_dring_Sub⟩ := p_dring_Sub_ok s_dring_below q_dring_Sub
theorem s_ref15_Sub : SigOk Go.Proofs.Try.prog 45 ⟨[.xs (.int .i32) 256, .xs (.int .i32) 256], [.xs (.int .i32) 256], g_ref15_Sub⟩ := p_ref15_Sub_ok s_ref15_mod q_ref15_Sub
theorem s_dring_MakeHint : SigOk Go.Proofs.Try.prog 20 ⟨[.xs (.int .i32) 256, .xs (.int .i32) 256], [.xs .bool 256, .int .i64], g_dring_MakeHint⟩ := p_dring_MakeHint_ok s_dring_Decompose s_dring_Add q_dring_MakeHint
theorem s_ref15_MakeHint : SigOk Go.Proofs.Try.prog 21 ⟨[.xs (.int .i32) 256, .xs (.int .i32) 256], [.xs .bool 256, .int .i64], g_ref15_MakeHint⟩ := p_ref15_MakeHint_ok s_ref15_Decompose s_ref15_Add q_ref15_MakeHint
theorem s_dring_UseHint : SigOk Go.Proofs.Try.prog 22 ⟨[.xs .bool 256, .xs (.int .i32) 256], [.xs (.int .i32) 256], g_dring_UseHint⟩ := p_dring_UseHint_ok s_dring_Decompose q_dring_UseHint
theorem s_ref15_UseHint : SigOk Go.Proofs.Try.prog 23 ⟨[.xs .bool 256, .xs (.int .i32) 256], [.xs (.int .i32) 256], g_ref15_UseHint⟩ := p_ref15_UseHint_ok s_ref15_Decompose q_ref15_UseHint
theorem s_law15_DringParts : SigOk Go.Proofs.Try.prog 4 ⟨[.xs (.int .i32) 256], [.bool], g_law15_DringParts⟩ := p_law15_DringParts_ok s_dring_Reduce s_dring_Power2Round s_dring_Decompose s_law15_live s_dring_Norm q_law15_DringParts
theorem s_law15_DringHints : SigOk Go.Proofs.Try.prog 5 ⟨[.xs (.int .i32) 256, .xs (.int .i32) 256, .xs .bool 256], [.bool], g_law15_DringHints⟩ := p_law15_DringHints_ok s_dring_MakeHint s_ref15_MakeHint s_law15_live s_dring_UseHint s_ref15_UseHint q_law15_DringHints
theorem s_law15_DringMends : SigOk Go.Proofs.Try.prog 6 ⟨[.xs (.int .i32) 256, .xs (.int .i32) 256], [.bool], g_law15_DringMends⟩ := p_law15_DringMends_ok s_law15_live s_dring_Norm s_dring_MakeHint s_dring_Add s_dring_Decompose s_dring_UseHint q_law15_DringMends
end Go.Ax.TryP
