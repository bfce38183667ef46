/- A part of the proof: MsgS2, MsgP2, MsgQ7, MsgQ8, MsgQ9, MsgQ10, MsgW2. -/
import Derived.Test.YtdaompnhkfdlgaaMsgA
/-! ### Messages: marks, words, what is missing, which are the same -/
namespace Go.Ax.TryP
noncomputable def g_octet_FromBits : List Int × Unit → Option (List Int) := Spec (ks := [.sl .bool]) (rs := [.sl (.int .u8)]) (fun x => x.1.length ≤ 1000000) fun x => fBytes (fun t => x.1.getD t 0) ((x.1.length + 7) / 8)
noncomputable def g_ref01_FromBits : List Int × Unit → Option (List Int) := Spec (ks := [.sl .bool]) (rs := [.sl (.int .u8)]) (fun x => x.1.length ≤ 1000000) fun x => fBytes (fun t => x.1.getD t 0) ((x.1.length + 7) / 8)
def marksS (l : List Int) : List Int := if 256 < l.length then [] else fBytes (fun t => l.getD t 0) ((l.length + 7) / 8)
noncomputable def g_msg_Marks : List Int × Unit → Option (List Int) := Spec (ks := [.sl .bool]) (rs := [.sl (.int .u8)]) (fun x => x.1.length ≤ 1000000) fun x => marksS x.1
noncomputable def g_ref21_Marks : List Int × Unit → Option (List Int) := Spec (ks := [.sl .bool]) (rs := [.sl (.int .u8)]) (fun x => x.1.length ≤ 1000000) fun x => marksS x.1
/-- The first place that is not marked. -/
def firstS : List Int → Nat
  | [] => 0
  | z :: r => if z = 0 then 0 else firstS r + 1
noncomputable def g_slices_Indexbool_bool : List Int × Bool × Unit → Option Int := Spec (ks := [.sl .bool, .bool]) (rs := [.int .i64]) (fun x => x.1.length ≤ 1000000 ∧ x.2.1 = false) fun x => if firstS x.1 < x.1.length then (firstS x.1 : Int) else -1
def missS (m : Ms) : Int := if m.1 = 4 ∧ checkS m = 0 then (firstS ((bitsOf m.2.2.2.2.2.2.2.2.2.1).take m.2.2.2.2.2.2.2.2.1.toNat) : Int) else -1
noncomputable def g_msg_Missing : Ms × Unit → Option Int := Spec (ks := [.cat msL]) (rs := [.int .i64]) (fun _ => True) fun x => missS x.1
noncomputable def g_ref21_Missing : Ms × Unit → Option Int := Spec (ks := [.cat msL]) (rs := [.int .i64]) (fun _ => True) fun x => missS x.1
noncomputable def g_msg_Clone : Ms × Unit → Option Ms := Spec (ks := [.cat msL]) (rs := [.cat msL]) (fun x => x.1.2.2.2.2.2.2.2.2.2.1.length ≤ 1000000 ∧ x.1.2.2.2.2.2.2.2.2.2.2.1.length ≤ 1000000 ∧ x.1.2.2.2.2.2.2.2.2.2.2.2.1.length ≤ 1000000) fun x => x.1
def sameS (a b : Ms) : Bool := decide (a.1 = b.1) && (decide (a.2.1 = b.2.1) && (decide (a.2.2.1 = b.2.2.1) && (decide (a.2.2.2.1 = b.2.2.2.1) && (decide (a.2.2.2.2.1 = b.2.2.2.2.1) && (decide (a.2.2.2.2.2.1 = b.2.2.2.2.2.1) && (decide (a.2.2.2.2.2.2.1 = b.2.2.2.2.2.2.1) && (decide (a.2.2.2.2.2.2.2.1 = b.2.2.2.2.2.2.2.1) && (decide (a.2.2.2.2.2.2.2.2.1 = b.2.2.2.2.2.2.2.2.1) && (decide (a.2.2.2.2.2.2.2.2.2.1 = b.2.2.2.2.2.2.2.2.2.1) && (decide (a.2.2.2.2.2.2.2.2.2.2.1 = b.2.2.2.2.2.2.2.2.2.2.1) && (decide (a.2.2.2.2.2.2.2.2.2.2.2.1 = b.2.2.2.2.2.2.2.2.2.2.2.1))))))))))))
noncomputable def g_msg_Same : Ms × Ms × Unit → Option Bool := Spec (ks := [.cat msL, .cat msL]) (rs := [.bool]) (fun _ => True) fun x => sameS x.1 x.2.1
noncomputable def g_ref21_Same : Ms × Ms × Unit → Option Bool := Spec (ks := [.cat msL, .cat msL]) (rs := [.bool]) (fun _ => True) fun x => sameS x.1 x.2.1
def titleS : List Int := [108, 105, 118, 101, 114, 121, 32, 97, 116, 116, 101, 115, 116, 115]
def wordsS (m : Ms) : List Int := if checkS m = 0 ∧ hasB m.1 115 = true then titleS ++ formS m false else []
noncomputable def g_msg_Words : Ms × Unit → Option (List Int) := Spec (ks := [.cat msL]) (rs := [.sl (.int .u8)]) (fun _ => True) fun x => wordsS x.1
noncomputable def g_ref21_Words : Ms × Unit → Option (List Int) := Spec (ks := [.cat msL]) (rs := [.sl (.int .u8)]) (fun _ => True) fun x => wordsS x.1
def bigB (m : Ms) : Bool := decide (9000 < m.2.2.2.2.2.2.2.2.2.1.length) || (decide (9000 < m.2.2.2.2.2.2.2.2.2.2.1.length) || decide (9000 < m.2.2.2.2.2.2.2.2.2.2.2.1.length))
noncomputable def g_law21_big : Ms × Unit → Option Bool := Spec (ks := [.cat msL]) (rs := [.bool]) (fun _ => True) fun x => bigB x.1
noncomputable def g_law21_MsgMarks : List Int × Int × Int × Unit → Option Bool := Spec (ks := [.sl .bool, .int .i64, .int .i64]) (rs := [.bool]) (fun _ => True) fun _ => true
noncomputable def g_law21_MsgWords : Ms × Ms × Unit → Option Bool := Spec (ks := [.cat msL, .cat msL]) (rs := [.bool]) (fun _ => True) fun _ => true
end Go.Ax.TryP
/-! Printed by program (gen.py). -/
set_option linter.unusedVariables false
namespace Go.Ax.TryP
/-! livery/octet.FromBits -/
noncomputable def p_octet_FromBits_E : AE := AE.of [(4, ty4), (5, ty5), (29, ty29), (43, ty43)] []
noncomputable def p_octet_FromBits_H : Hints := [(3, [3, 11, 12, 13]), (2000000, [3]), (2000001, [3, 11, 12, 13]), (3000000, [2])]
noncomputable def p_octet_FromBits_c : Code := (Go.Proofs.Try.f53).body.getD .skip
noncomputable def p_octet_FromBits_l3_S : Shape where
  h := { tmps := [.any, .any, .any, .sc (.vec 0 none 1), .any, .any, .any, .any, .any, .any, .any, .sc (.vec 1 none 1), .sc (.int .i64), .sc (.int .i64), .any, .any, .any, .any, .any, .any, .any, .any, .any, .any, .any, .any, .any, .any, .any, .any, .any], mem := [.live [.xs (.int .u8) none] (.own), .live [.xs .bool none] (.ro)] }
  ks := [.nat, .nat, .int, .int, .nat, .xs, .nat, .xs]
  st := fun x => { tmps := [.one .any, .one .any, .one .any, .one (.sc (.vec 0 x.1 1)), .one .any, .one .any, .one .any, .one .any, .one .any, .one .any, .one .any, .one (.sc (.vec 1 x.2.1 1)), .one (.sc (.int .i64 x.2.2.1)), .one (.sc (.int .i64 x.2.2.2.1)), .one .any, .one .any, .one .any, .one .any, .one .any, .one .any, .one .any, .one .any, .one .any, .one .any, .one .any, .one .any, .one .any, .one .any, .one .any, .one .any, .one .any], mem := [.live { segs := [.xs (.int .u8) x.2.2.2.2.1 x.2.2.2.2.2.1], own := .own }, .live { segs := [.xs .bool x.2.2.2.2.2.2.1 x.2.2.2.2.2.2.2.1], own := .ro }] }
noncomputable def p_octet_FromBits_l3_F (N : Nat) (β : Type) (x : (Nat × Nat × Int × Int × Nat × List Int × Nat × List Int × Unit)) (kn : (Nat × Nat × Int × Int × Nat × List Int × Nat × List Int × Unit) → Option β) (ke : ((Nat × Nat × List Int × Unit)) → Option β) : Option β :=
  if (x.2.2.2.1 < x.2.2.1) then
    if 0 ≤ x.2.2.2.1 then (
    if x.2.2.2.1 < ((x.2.1 : Nat) : Int) then (
    if (x.2.2.2.1.toNat) < x.2.2.2.2.2.2.1 then (
    if ((List.getD x.2.2.2.2.2.2.2.1 (x.2.2.2.1.toNat) 0) ≠ 0) then
      if 0 ≤ (IntKind.i64.wrap (Int.tdiv x.2.2.2.1 (8:Int))) then (
      if (IntKind.i64.wrap (Int.tdiv x.2.2.2.1 (8:Int))) < ((x.1 : Nat) : Int) then (
      if ((IntKind.i64.wrap (Int.tdiv x.2.2.2.1 (8:Int))).toNat) < x.2.2.2.2.1 then (
      if (Int.tmod x.2.2.2.1 (8:Int)) < 0 then none else (
      if 0 ≤ (IntKind.i64.wrap (Int.tdiv x.2.2.2.1 (8:Int))) then (
      if (IntKind.i64.wrap (Int.tdiv x.2.2.2.1 (8:Int))) < ((x.1 : Nat) : Int) then (
      if ((IntKind.i64.wrap (Int.tdiv x.2.2.2.1 (8:Int))).toNat) < x.2.2.2.2.1 then (
      kn (x.1, x.2.1, x.2.2.1, (IntKind.i64.wrap (x.2.2.2.1 + (1:Int))), x.2.2.2.2.1, (List.set x.2.2.2.2.2.1 ((IntKind.i64.wrap (Int.tdiv x.2.2.2.1 (8:Int))).toNat) (ior IntKind.u8 (List.getD x.2.2.2.2.2.1 ((IntKind.i64.wrap (Int.tdiv x.2.2.2.1 (8:Int))).toNat) 0) (ishl IntKind.u8 (1:Int) (Int.tmod x.2.2.2.1 (8:Int))))), x.2.2.2.2.2.2.1, x.2.2.2.2.2.2.2.1, ())) else none) else none) else none)) else none) else none) else none
    else
      kn (x.1, x.2.1, x.2.2.1, (IntKind.i64.wrap (x.2.2.2.1 + (1:Int))), x.2.2.2.2.1, x.2.2.2.2.2.1, x.2.2.2.2.2.2.1, x.2.2.2.2.2.2.2.1, ())) else none) else none) else none
  else
    ke (x.1, x.2.2.2.2.1, x.2.2.2.2.2.1, ())
noncomputable def p_octet_FromBits_l3_go : Go' ((Nat × Nat × List Int × Unit)) := fun y K => K (.exit 0) { tmps := [.one .any, .one .any, .one .any, .one (.sc (.vec 0 y.1 1)), .one .any, .one .any, .one .any, .one .any, .one .any, .one .any, .one .any, .one .any, .one .any, .one .any, .one .any, .one .any, .one .any, .one .any, .one .any, .one .any, .one .any, .one .any, .one .any, .one .any, .one .any, .one .any, .one .any, .one .any, .one .any, .one .any, .one .any], mem := [.live { segs := [.xs (.int .u8) y.2.1 y.2.2.1], own := .own }] }
noncomputable def p_octet_FromBits_l3_L (N : Nat) : LT := upd (LT.nil) 3 (loopE p_octet_FromBits_l3_S N (p_octet_FromBits_l3_F N) p_octet_FromBits_l3_go)
theorem p_octet_FromBits_l3_ok (N : Nat) : OkAll p_octet_FromBits_E p_octet_FromBits_H N (p_octet_FromBits_l3_L N) (subs p_octet_FromBits_c) :=
  addLoop (c := theLoop 3 p_octet_FromBits_c) (OkAll.nil) (by kernel_rfl) (fun x => by kernel_rfl) (fun β x kn ke => by kernel_rfl)
abbrev p_octet_FromBits_ks : List Kd := [.sl .bool]
abbrev p_octet_FromBits_rs : List Kd := [.sl (.int .u8)]
noncomputable def p_octet_FromBits (N : Nat) (x : List Int × Unit) : Option (List Int) :=
  if 0 ≤ (IntKind.i64.wrap (Int.tdiv (IntKind.i64.wrap ((((List.length x.1) : Nat) : Int) + (7:Int))) (8:Int))) then (
  if (IntKind.i64.wrap (Int.tdiv (IntKind.i64.wrap ((((List.length x.1) : Nat) : Int) + (7:Int))) (8:Int))) = (IntKind.i64.wrap (Int.tdiv (IntKind.i64.wrap ((((List.length x.1) : Nat) : Int) + (7:Int))) (8:Int))) then (
  if (IntKind.i64.wrap (Int.tdiv (IntKind.i64.wrap ((((List.length x.1) : Nat) : Int) + (7:Int))) (8:Int))) * 1 ≤ 281474976710656 then (
  iter (p_octet_FromBits_l3_F N) N (((IntKind.i64.wrap (Int.tdiv (IntKind.i64.wrap ((((List.length x.1) : Nat) : Int) + (7:Int))) (8:Int))).toNat), (List.length x.1), (((List.length x.1) : Nat) : Int), (0:Int), ((IntKind.i64.wrap (Int.tdiv (IntKind.i64.wrap ((((List.length x.1) : Nat) : Int) + (7:Int))) (8:Int))).toNat), (List.replicate ((IntKind.i64.wrap (Int.tdiv (IntKind.i64.wrap ((((List.length x.1) : Nat) : Int) + (7:Int))) (8:Int))).toNat) 0), (List.length x.1), x.1, ()) fun y1 => (
  some y1.2.2.1)) else none) else none) else none
theorem p_octet_FromBits_eq (N : Nat) (x : Ds [.sl .bool]) : funL p_octet_FromBits_E p_octet_FromBits_H (p_octet_FromBits_l3_L N) N Go.Proofs.Try.f53 p_octet_FromBits_c [.sl .bool] [.sl (.int .u8)] x = p_octet_FromBits N x := by kernel_rfl
theorem p_octet_FromBits_Eok : p_octet_FromBits_E.Ok Go.Proofs.Try.prog := AE.of_ok (all_cons ty4_ok (all_cons ty5_ok (all_cons ty29_ok (all_cons ty43_ok all_nil)))) all_nil
theorem p_octet_FromBits_ok {g : Ds [.sl .bool] → Option (Rs [.sl (.int .u8)])} (hg : ∀ x r, g x = some r → ∃ N, p_octet_FromBits N x = some r) : SigOk Go.Proofs.Try.prog 53 ⟨[.sl .bool], [.sl (.int .u8)], g⟩ :=
  fun_of (E := p_octet_FromBits_E) (H := p_octet_FromBits_H) (L := fun N => p_octet_FromBits_l3_L N) (c := p_octet_FromBits_c) (ks := p_octet_FromBits_ks) (rs := p_octet_FromBits_rs) (F := p_octet_FromBits) (p_octet_FromBits_Eok) mix Go.Proofs.Try.func53 (by kernel_rfl) (fun N => p_octet_FromBits_l3_ok N) p_octet_FromBits_eq hg

/-! livery/liveryref01.FromBits -/
noncomputable def p_ref01_FromBits_E : AE := AE.of [(3, ty3), (4, ty4), (5, ty5), (29, ty29), (43, ty43)] []
noncomputable def p_ref01_FromBits_H : Hints := [(3, [0, 3, 4]), (7, [0, 3, 4, 5, 6, 7]), (2000000, [3]), (2000001, [0, 3, 4]), (2000002, [0, 3, 4, 5]), (2000003, [0, 3, 4, 5, 6, 7]), (3000000, [2])]
noncomputable def p_ref01_FromBits_c : Code := (Go.Proofs.Try.f54).body.getD .skip
noncomputable def p_ref01_FromBits_l7_S : Shape where
  h := { tmps := [.sc (.vec 0 none 1), .any, .any, .sc (.vec 1 none 1), .sc (.int .i64), .sc (.int .i64), .sc (.int .i64), .sc (.int .i64), .any, .any, .any, .any, .any, .any, .any, .any, .any, .any, .any, .any, .any, .any, .any, .any, .any, .any, .any, .any, .any, .any, .any, .any, .any, .any, .any, .any, .any, .any, .any, .any, .any, .any, .any], mem := [.live [.xs .bool none] (.ro), .live [.xs (.int .u8) none] (.own)] }
  ks := [.nat, .nat, .int, .int, .int, .int, .nat, .xs, .nat, .xs]
  st := fun x => { tmps := [.one (.sc (.vec 0 x.1 1)), .one .any, .one .any, .one (.sc (.vec 1 x.2.1 1)), .one (.sc (.int .i64 x.2.2.1)), .one (.sc (.int .i64 x.2.2.2.1)), .one (.sc (.int .i64 x.2.2.2.2.1)), .one (.sc (.int .i64 x.2.2.2.2.2.1)), .one .any, .one .any, .one .any, .one .any, .one .any, .one .any, .one .any, .one .any, .one .any, .one .any, .one .any, .one .any, .one .any, .one .any, .one .any, .one .any, .one .any, .one .any, .one .any, .one .any, .one .any, .one .any, .one .any, .one .any, .one .any, .one .any, .one .any, .one .any, .one .any, .one .any, .one .any, .one .any, .one .any, .one .any, .one .any], mem := [.live { segs := [.xs .bool x.2.2.2.2.2.2.1 x.2.2.2.2.2.2.2.1], own := .ro }, .live { segs := [.xs (.int .u8) x.2.2.2.2.2.2.2.2.1 x.2.2.2.2.2.2.2.2.2.1], own := .own }] }
noncomputable def p_ref01_FromBits_l7_F (N : Nat) (β : Type) (x : (Nat × Nat × Int × Int × Int × Int × Nat × List Int × Nat × List Int × Unit)) (kn : (Nat × Nat × Int × Int × Int × Int × Nat × List Int × Nat × List Int × Unit) → Option β) (ke : ((Nat × Nat × Int × Int × Nat × List Int × Nat × List Int × Unit)) → Option β) : Option β :=
  if (x.2.2.2.2.2.1 < (IntKind.i64.wrap (x.2.2.1 + (8:Int)))) then
    if (x.2.2.2.2.2.1 < ((x.1 : Nat) : Int)) then
      if 0 ≤ x.2.2.2.2.2.1 then (
      if x.2.2.2.2.2.1 < ((x.1 : Nat) : Int) then (
      if (x.2.2.2.2.2.1.toNat) < x.2.2.2.2.2.2.1 then (
      if ((List.getD x.2.2.2.2.2.2.2.1 (x.2.2.2.2.2.1.toNat) 0) ≠ 0) then
        kn (x.1, x.2.1, x.2.2.1, (IntKind.i64.wrap (x.2.2.2.1 + x.2.2.2.2.1)), (IntKind.i64.wrap (x.2.2.2.2.1 * (2:Int))), (IntKind.i64.wrap (x.2.2.2.2.2.1 + (1:Int))), x.2.2.2.2.2.2.1, x.2.2.2.2.2.2.2.1, x.2.2.2.2.2.2.2.2.1, x.2.2.2.2.2.2.2.2.2.1, ())
      else
        kn (x.1, x.2.1, x.2.2.1, x.2.2.2.1, (IntKind.i64.wrap (x.2.2.2.2.1 * (2:Int))), (IntKind.i64.wrap (x.2.2.2.2.2.1 + (1:Int))), x.2.2.2.2.2.2.1, x.2.2.2.2.2.2.2.1, x.2.2.2.2.2.2.2.2.1, x.2.2.2.2.2.2.2.2.2.1, ())) else none) else none) else none
    else
      ke (x.1, x.2.1, x.2.2.1, x.2.2.2.1, x.2.2.2.2.2.2.1, x.2.2.2.2.2.2.2.1, x.2.2.2.2.2.2.2.2.1, x.2.2.2.2.2.2.2.2.2.1, ())
  else
    ke (x.1, x.2.1, x.2.2.1, x.2.2.2.1, x.2.2.2.2.2.2.1, x.2.2.2.2.2.2.2.1, x.2.2.2.2.2.2.2.2.1, x.2.2.2.2.2.2.2.2.2.1, ())
noncomputable def p_ref01_FromBits_l7_go : Go' ((Nat × Nat × Int × Int × Nat × List Int × Nat × List Int × Unit)) := fun y K => K (.exit 2) { tmps := [.one (.sc (.vec 0 y.1 1)), .one .any, .one .any, .one (.sc (.vec 1 y.2.1 1)), .one (.sc (.int .i64 y.2.2.1)), .one (.sc (.int .i64 y.2.2.2.1)), .one .any, .one .any, .one .any, .one .any, .one .any, .one .any, .one .any, .one .any, .one .any, .one .any, .one .any, .one .any, .one .any, .one .any, .one .any, .one .any, .one .any, .one .any, .one .any, .one .any, .one .any, .one .any, .one .any, .one .any, .one .any, .one .any, .one .any, .one .any, .one .any, .one .any, .one .any, .one .any, .one .any, .one .any, .one .any, .one .any, .one .any], mem := [.live { segs := [.xs .bool y.2.2.2.2.1 y.2.2.2.2.2.1], own := .ro }, .live { segs := [.xs (.int .u8) y.2.2.2.2.2.2.1 y.2.2.2.2.2.2.2.1], own := .own }] }
noncomputable def p_ref01_FromBits_l7_L (N : Nat) : LT := upd (LT.nil) 7 (loopE p_ref01_FromBits_l7_S N (p_ref01_FromBits_l7_F N) p_ref01_FromBits_l7_go)
theorem p_ref01_FromBits_l7_ok (N : Nat) : OkAll p_ref01_FromBits_E p_ref01_FromBits_H N (p_ref01_FromBits_l7_L N) (subs p_ref01_FromBits_c) :=
  addLoop (c := theLoop 7 p_ref01_FromBits_c) (OkAll.nil) (by kernel_rfl) (fun x => by kernel_rfl) (fun β x kn ke => by kernel_rfl)
noncomputable def p_ref01_FromBits_l3_S : Shape where
  h := { tmps := [.sc (.vec 0 none 1), .any, .any, .sc (.vec 1 none 1), .sc (.int .i64), .any, .any, .any, .any, .any, .any, .any, .any, .any, .any, .any, .any, .any, .any, .any, .any, .any, .any, .any, .any, .any, .any, .any, .any, .any, .any, .any, .any, .any, .any, .any, .any, .any, .any, .any, .any, .any, .any], mem := [.live [.xs .bool none] (.ro), .live [.xs (.int .u8) none] (.own)] }
  ks := [.nat, .nat, .int, .nat, .xs, .nat, .xs]
  st := fun x => { tmps := [.one (.sc (.vec 0 x.1 1)), .one .any, .one .any, .one (.sc (.vec 1 x.2.1 1)), .one (.sc (.int .i64 x.2.2.1)), .one .any, .one .any, .one .any, .one .any, .one .any, .one .any, .one .any, .one .any, .one .any, .one .any, .one .any, .one .any, .one .any, .one .any, .one .any, .one .any, .one .any, .one .any, .one .any, .one .any, .one .any, .one .any, .one .any, .one .any, .one .any, .one .any, .one .any, .one .any, .one .any, .one .any, .one .any, .one .any, .one .any, .one .any, .one .any, .one .any, .one .any, .one .any], mem := [.live { segs := [.xs .bool x.2.2.2.1 x.2.2.2.2.1], own := .ro }, .live { segs := [.xs (.int .u8) x.2.2.2.2.2.1 x.2.2.2.2.2.2.1], own := .own }] }
noncomputable def p_ref01_FromBits_l3_F (N : Nat) (β : Type) (x : (Nat × Nat × Int × Nat × List Int × Nat × List Int × Unit)) (kn : (Nat × Nat × Int × Nat × List Int × Nat × List Int × Unit) → Option β) (ke : ((Nat × Nat × List Int × Unit)) → Option β) : Option β :=
  if (x.2.2.1 < ((x.1 : Nat) : Int)) then
    iter (p_ref01_FromBits_l7_F N) N (x.1, x.2.1, x.2.2.1, (0:Int), (1:Int), x.2.2.1, x.2.2.2.1, x.2.2.2.2.1, x.2.2.2.2.2.1, x.2.2.2.2.2.2.1, ()) fun y1 => (
    if (y1.2.1 + 1) * 1 ≤ 140737488355328 then (
    kn (y1.1, (y1.2.1 + 1), (IntKind.i64.wrap (y1.2.2.1 + (8:Int))), y1.2.2.2.2.1, y1.2.2.2.2.2.1, (y1.2.2.2.2.2.2.1 + 1), (y1.2.2.2.2.2.2.2.1 ++ (List.set (List.replicate 1 0) 0 (IntKind.u8.wrap y1.2.2.2.1))), ())) else none)
  else
    ke (x.2.1, x.2.2.2.2.2.1, x.2.2.2.2.2.2.1, ())
noncomputable def p_ref01_FromBits_l3_go : Go' ((Nat × Nat × List Int × Unit)) := fun y K => K (.exit 0) { tmps := [.one .any, .one .any, .one .any, .one (.sc (.vec 0 y.1 1)), .one .any, .one .any, .one .any, .one .any, .one .any, .one .any, .one .any, .one .any, .one .any, .one .any, .one .any, .one .any, .one .any, .one .any, .one .any, .one .any, .one .any, .one .any, .one .any, .one .any, .one .any, .one .any, .one .any, .one .any, .one .any, .one .any, .one .any, .one .any, .one .any, .one .any, .one .any, .one .any, .one .any, .one .any, .one .any, .one .any, .one .any, .one .any, .one .any], mem := [.live { segs := [.xs (.int .u8) y.2.1 y.2.2.1], own := .own }] }
noncomputable def p_ref01_FromBits_l3_L (N : Nat) : LT := upd (p_ref01_FromBits_l7_L N) 3 (loopE p_ref01_FromBits_l3_S N (p_ref01_FromBits_l3_F N) p_ref01_FromBits_l3_go)
theorem p_ref01_FromBits_l3_ok (N : Nat) : OkAll p_ref01_FromBits_E p_ref01_FromBits_H N (p_ref01_FromBits_l3_L N) (subs p_ref01_FromBits_c) :=
  addLoop (c := theLoop 3 p_ref01_FromBits_c) (p_ref01_FromBits_l7_ok N) (by kernel_rfl) (fun x => by kernel_rfl) (fun β x kn ke => by kernel_rfl)
abbrev p_ref01_FromBits_ks : List Kd := [.sl .bool]
abbrev p_ref01_FromBits_rs : List Kd := [.sl (.int .u8)]
noncomputable def p_ref01_FromBits (N : Nat) (x : List Int × Unit) : Option (List Int) :=
  iter (p_ref01_FromBits_l3_F N) N ((List.length x.1), 0, (0:Int), (List.length x.1), x.1, 0, (List.replicate 0 0), ()) fun y2 => (
  some y2.2.2.1)
theorem p_ref01_FromBits_eq (N : Nat) (x : Ds [.sl .bool]) : funL p_ref01_FromBits_E p_ref01_FromBits_H (p_ref01_FromBits_l3_L N) N Go.Proofs.Try.f54 p_ref01_FromBits_c [.sl .bool] [.sl (.int .u8)] x = p_ref01_FromBits N x := by kernel_rfl
theorem p_ref01_FromBits_Eok : p_ref01_FromBits_E.Ok Go.Proofs.Try.prog := AE.of_ok (all_cons ty3_ok (all_cons ty4_ok (all_cons ty5_ok (all_cons ty29_ok (all_cons ty43_ok all_nil))))) all_nil
theorem p_ref01_FromBits_ok {g : Ds [.sl .bool] → Option (Rs [.sl (.int .u8)])} (hg : ∀ x r, g x = some r → ∃ N, p_ref01_FromBits N x = some r) : SigOk Go.Proofs.Try.prog 54 ⟨[.sl .bool], [.sl (.int .u8)], g⟩ :=
  fun_of (E := p_ref01_FromBits_E) (H := p_ref01_FromBits_H) (L := fun N => p_ref01_FromBits_l3_L N) (c := p_ref01_FromBits_c) (ks := p_ref01_FromBits_ks) (rs := p_ref01_FromBits_rs) (F := p_ref01_FromBits) (p_ref01_FromBits_Eok) mix Go.Proofs.Try.func54 (by kernel_rfl) (fun N => p_ref01_FromBits_l3_ok N) p_ref01_FromBits_eq hg

/-! livery/msg.Marks -/
noncomputable def p_msg_Marks_E : AE := AE.of [(43, ty43)] [(53, ⟨[.sl .bool], [.sl (.int .u8)], g_octet_FromBits⟩)]
noncomputable def p_msg_Marks_H : Hints := [(3000000, [2])]
noncomputable def p_msg_Marks_c : Code := (Go.Proofs.Try.f29).body.getD .skip
abbrev p_msg_Marks_ks : List Kd := [.sl .bool]
abbrev p_msg_Marks_rs : List Kd := [.sl (.int .u8)]
noncomputable def p_msg_Marks (N : Nat) (x : List Int × Unit) : Option (List Int) :=
  if ((((List.length x.1) : Nat) : Int) > (256:Int)) then
    some []
  else
    (g_octet_FromBits (x.1, ())).bind fun r1 => (
    some r1)
theorem p_msg_Marks_eq (N : Nat) (x : Ds [.sl .bool]) : funL p_msg_Marks_E p_msg_Marks_H (LT.nil) N Go.Proofs.Try.f29 p_msg_Marks_c [.sl .bool] [.sl (.int .u8)] x = p_msg_Marks N x := by kernel_rfl
theorem p_msg_Marks_Eok (he_octet_FromBits : SigOk Go.Proofs.Try.prog 53 ⟨[.sl .bool], [.sl (.int .u8)], g_octet_FromBits⟩) : p_msg_Marks_E.Ok Go.Proofs.Try.prog := AE.of_ok (all_cons ty43_ok all_nil) (all_cons ⟨he_octet_FromBits, enters_octet_FromBits⟩ all_nil)
theorem p_msg_Marks_ok (he_octet_FromBits : SigOk Go.Proofs.Try.prog 53 ⟨[.sl .bool], [.sl (.int .u8)], g_octet_FromBits⟩) {g : Ds [.sl .bool] → Option (Rs [.sl (.int .u8)])} (hg : ∀ x r, g x = some r → ∃ N, p_msg_Marks N x = some r) : SigOk Go.Proofs.Try.prog 29 ⟨[.sl .bool], [.sl (.int .u8)], g⟩ :=
  fun_of (E := p_msg_Marks_E) (H := p_msg_Marks_H) (L := fun N => LT.nil) (c := p_msg_Marks_c) (ks := p_msg_Marks_ks) (rs := p_msg_Marks_rs) (F := p_msg_Marks) (p_msg_Marks_Eok he_octet_FromBits) mix Go.Proofs.Try.func29 (by kernel_rfl) (fun N => OkAll.nil) p_msg_Marks_eq hg

/-! livery/liveryref21.Marks -/
noncomputable def p_ref21_Marks_E : AE := AE.of [(43, ty43)] [(54, ⟨[.sl .bool], [.sl (.int .u8)], g_ref01_FromBits⟩)]
noncomputable def p_ref21_Marks_H : Hints := [(3000000, [2])]
noncomputable def p_ref21_Marks_c : Code := (Go.Proofs.Try.f30).body.getD .skip
abbrev p_ref21_Marks_ks : List Kd := [.sl .bool]
abbrev p_ref21_Marks_rs : List Kd := [.sl (.int .u8)]
noncomputable def p_ref21_Marks (N : Nat) (x : List Int × Unit) : Option (List Int) :=
  if ((((List.length x.1) : Nat) : Int) > (256:Int)) then
    some []
  else
    (g_ref01_FromBits (x.1, ())).bind fun r1 => (
    some r1)
theorem p_ref21_Marks_eq (N : Nat) (x : Ds [.sl .bool]) : funL p_ref21_Marks_E p_ref21_Marks_H (LT.nil) N Go.Proofs.Try.f30 p_ref21_Marks_c [.sl .bool] [.sl (.int .u8)] x = p_ref21_Marks N x := by kernel_rfl
theorem p_ref21_Marks_Eok (he_ref01_FromBits : SigOk Go.Proofs.Try.prog 54 ⟨[.sl .bool], [.sl (.int .u8)], g_ref01_FromBits⟩) : p_ref21_Marks_E.Ok Go.Proofs.Try.prog := AE.of_ok (all_cons ty43_ok all_nil) (all_cons ⟨he_ref01_FromBits, enters_ref01_FromBits⟩ all_nil)
theorem p_ref21_Marks_ok (he_ref01_FromBits : SigOk Go.Proofs.Try.prog 54 ⟨[.sl .bool], [.sl (.int .u8)], g_ref01_FromBits⟩) {g : Ds [.sl .bool] → Option (Rs [.sl (.int .u8)])} (hg : ∀ x r, g x = some r → ∃ N, p_ref21_Marks N x = some r) : SigOk Go.Proofs.Try.prog 30 ⟨[.sl .bool], [.sl (.int .u8)], g⟩ :=
  fun_of (E := p_ref21_Marks_E) (H := p_ref21_Marks_H) (L := fun N => LT.nil) (c := p_ref21_Marks_c) (ks := p_ref21_Marks_ks) (rs := p_ref21_Marks_rs) (F := p_ref21_Marks) (p_ref21_Marks_Eok he_ref01_FromBits) mix Go.Proofs.Try.func30 (by kernel_rfl) (fun N => OkAll.nil) p_ref21_Marks_eq hg

/-! slices.Clone[[]byte,byte] -/
noncomputable def p_slices_Clonebyte_byte_E : AE := AE.of [(5, ty5), (29, ty29)] []
noncomputable def p_slices_Clonebyte_byte_H : Hints := [(3000000, [2])]
noncomputable def p_slices_Clonebyte_byte_c : Code := (Go.Proofs.Try.f42).body.getD .skip
abbrev p_slices_Clonebyte_byte_ks : List Kd := [.sl (.int .u8)]
abbrev p_slices_Clonebyte_byte_rs : List Kd := [.sl (.int .u8)]
noncomputable def p_slices_Clonebyte_byte (N : Nat) (x : List Int × Unit) : Option (List Int) :=
  if (List.length x.1) = 0 then
    both (
      some []) (
      if (0 + (List.length x.1)) * 1 ≤ 140737488355328 then (
      some ((List.replicate 0 0) ++ x.1)) else none)
  else
    if (0 + (List.length x.1)) * 1 ≤ 140737488355328 then (
    some ((List.replicate 0 0) ++ x.1)) else none
theorem p_slices_Clonebyte_byte_eq (N : Nat) (x : Ds [.sl (.int .u8)]) : funL p_slices_Clonebyte_byte_E p_slices_Clonebyte_byte_H (LT.nil) N Go.Proofs.Try.f42 p_slices_Clonebyte_byte_c [.sl (.int .u8)] [.sl (.int .u8)] x = p_slices_Clonebyte_byte N x := by kernel_rfl
theorem p_slices_Clonebyte_byte_Eok : p_slices_Clonebyte_byte_E.Ok Go.Proofs.Try.prog := AE.of_ok (all_cons ty5_ok (all_cons ty29_ok all_nil)) all_nil
theorem p_slices_Clonebyte_byte_ok {g : Ds [.sl (.int .u8)] → Option (Rs [.sl (.int .u8)])} (hg : ∀ x r, g x = some r → ∃ N, p_slices_Clonebyte_byte N x = some r) : SigOk Go.Proofs.Try.prog 42 ⟨[.sl (.int .u8)], [.sl (.int .u8)], g⟩ :=
  fun_of (E := p_slices_Clonebyte_byte_E) (H := p_slices_Clonebyte_byte_H) (L := fun N => LT.nil) (c := p_slices_Clonebyte_byte_c) (ks := p_slices_Clonebyte_byte_ks) (rs := p_slices_Clonebyte_byte_rs) (F := p_slices_Clonebyte_byte) (p_slices_Clonebyte_byte_Eok) mix Go.Proofs.Try.func42 (by kernel_rfl) (fun N => OkAll.nil) p_slices_Clonebyte_byte_eq hg

/-! livery/msg.Clone -/
noncomputable def p_msg_Clone_E : AE := AE.of [(29, ty29), (31, ty31)] [(42, ⟨[.sl (.int .u8)], [.sl (.int .u8)], g_slices_Clonebyte_byte⟩)]
noncomputable def p_msg_Clone_H : Hints := [(3000000, [2])]
noncomputable def p_msg_Clone_c : Code := (Go.Proofs.Try.f24).body.getD .skip
abbrev p_msg_Clone_ks : List Kd := [.cat [.int .i64, .int .i64, .int .i64, .int .u32, .int .u32, .int .u64, .int .u64, .int .i64, .int .i64, .sl (.int .u8), .sl (.int .u8), .sl (.int .u8)]]
abbrev p_msg_Clone_rs : List Kd := [.cat [.int .i64, .int .i64, .int .i64, .int .u32, .int .u32, .int .u64, .int .u64, .int .i64, .int .i64, .sl (.int .u8), .sl (.int .u8), .sl (.int .u8)]]
noncomputable def p_msg_Clone (N : Nat) (x : (Int × Int × Int × Int × Int × Int × Int × Int × Int × List Int × List Int × List Int × Unit) × Unit) : Option ((Int × Int × Int × Int × Int × Int × Int × Int × Int × List Int × List Int × List Int × Unit)) :=
  (g_slices_Clonebyte_byte (x.1.2.2.2.2.2.2.2.2.2.1, ())).bind fun r1 => (
  (g_slices_Clonebyte_byte (x.1.2.2.2.2.2.2.2.2.2.2.1, ())).bind fun r2 => (
  (g_slices_Clonebyte_byte (x.1.2.2.2.2.2.2.2.2.2.2.2.1, ())).bind fun r3 => (
  some (x.1.1, x.1.2.1, x.1.2.2.1, x.1.2.2.2.1, x.1.2.2.2.2.1, x.1.2.2.2.2.2.1, x.1.2.2.2.2.2.2.1, x.1.2.2.2.2.2.2.2.1, x.1.2.2.2.2.2.2.2.2.1, r1, r2, r3, ()))))
theorem p_msg_Clone_eq (N : Nat) (x : Ds [.cat [.int .i64, .int .i64, .int .i64, .int .u32, .int .u32, .int .u64, .int .u64, .int .i64, .int .i64, .sl (.int .u8), .sl (.int .u8), .sl (.int .u8)]]) : funL p_msg_Clone_E p_msg_Clone_H (LT.nil) N Go.Proofs.Try.f24 p_msg_Clone_c [.cat [.int .i64, .int .i64, .int .i64, .int .u32, .int .u32, .int .u64, .int .u64, .int .i64, .int .i64, .sl (.int .u8), .sl (.int .u8), .sl (.int .u8)]] [.cat [.int .i64, .int .i64, .int .i64, .int .u32, .int .u32, .int .u64, .int .u64, .int .i64, .int .i64, .sl (.int .u8), .sl (.int .u8), .sl (.int .u8)]] x = p_msg_Clone N x := by kernel_rfl
theorem p_msg_Clone_Eok (he_slices_Clonebyte_byte : SigOk Go.Proofs.Try.prog 42 ⟨[.sl (.int .u8)], [.sl (.int .u8)], g_slices_Clonebyte_byte⟩) : p_msg_Clone_E.Ok Go.Proofs.Try.prog := AE.of_ok (all_cons ty29_ok (all_cons ty31_ok all_nil)) (all_cons ⟨he_slices_Clonebyte_byte, enters_slices_Clonebyte_byte⟩ all_nil)
theorem p_msg_Clone_ok (he_slices_Clonebyte_byte : SigOk Go.Proofs.Try.prog 42 ⟨[.sl (.int .u8)], [.sl (.int .u8)], g_slices_Clonebyte_byte⟩) {g : Ds [.cat [.int .i64, .int .i64, .int .i64, .int .u32, .int .u32, .int .u64, .int .u64, .int .i64, .int .i64, .sl (.int .u8), .sl (.int .u8), .sl (.int .u8)]] → Option (Rs [.cat [.int .i64, .int .i64, .int .i64, .int .u32, .int .u32, .int .u64, .int .u64, .int .i64, .int .i64, .sl (.int .u8), .sl (.int .u8), .sl (.int .u8)]])} (hg : ∀ x r, g x = some r → ∃ N, p_msg_Clone N x = some r) : SigOk Go.Proofs.Try.prog 24 ⟨[.cat [.int .i64, .int .i64, .int .i64, .int .u32, .int .u32, .int .u64, .int .u64, .int .i64, .int .i64, .sl (.int .u8), .sl (.int .u8), .sl (.int .u8)]], [.cat [.int .i64, .int .i64, .int .i64, .int .u32, .int .u32, .int .u64, .int .u64, .int .i64, .int .i64, .sl (.int .u8), .sl (.int .u8), .sl (.int .u8)]], g⟩ :=
  fun_of (E := p_msg_Clone_E) (H := p_msg_Clone_H) (L := fun N => LT.nil) (c := p_msg_Clone_c) (ks := p_msg_Clone_ks) (rs := p_msg_Clone_rs) (F := p_msg_Clone) (p_msg_Clone_Eok he_slices_Clonebyte_byte) mix Go.Proofs.Try.func24 (by kernel_rfl) (fun N => OkAll.nil) p_msg_Clone_eq hg

/-! livery/msg.Same -/
noncomputable def p_msg_Same_E : AE := AE.ofQ [(3, ty3), (25, ty25), (28, ty28), (29, ty29), (31, ty31)] [(52, ⟨[.sl (.int .u8), .sl (.int .u8)], [.bool], g_octet_Same⟩)] [(28, .u64, 2)]
noncomputable def p_msg_Same_H : Hints := [(3000000, [4])]
noncomputable def p_msg_Same_c : Code := (Go.Proofs.Try.f27).body.getD .skip
abbrev p_msg_Same_ks : List Kd := [.cat [.int .i64, .int .i64, .int .i64, .int .u32, .int .u32, .int .u64, .int .u64, .int .i64, .int .i64, .sl (.int .u8), .sl (.int .u8), .sl (.int .u8)], .cat [.int .i64, .int .i64, .int .i64, .int .u32, .int .u32, .int .u64, .int .u64, .int .i64, .int .i64, .sl (.int .u8), .sl (.int .u8), .sl (.int .u8)]]
abbrev p_msg_Same_rs : List Kd := [.bool]
noncomputable def p_msg_Same (N : Nat) (x : (Int × Int × Int × Int × Int × Int × Int × Int × Int × List Int × List Int × List Int × Unit) × (Int × Int × Int × Int × Int × Int × Int × Int × Int × List Int × List Int × List Int × Unit) × Unit) : Option (Bool) :=
  if (x.1.1 = x.2.1.1) then
    if (x.1.2.1 = x.2.1.2.1) then
      if (x.1.2.2.1 = x.2.1.2.2.1) then
        if (x.1.2.2.2.1 = x.2.1.2.2.2.1) then
          if (x.1.2.2.2.2.1 = x.2.1.2.2.2.2.1) then
            if ((x.1.2.2.2.2.2.1 :: (x.1.2.2.2.2.2.2.1 :: [])) = (x.2.1.2.2.2.2.2.1 :: (x.2.1.2.2.2.2.2.2.1 :: []))) then
              if (x.1.2.2.2.2.2.2.2.1 = x.2.1.2.2.2.2.2.2.2.1) then
                if (x.1.2.2.2.2.2.2.2.2.1 = x.2.1.2.2.2.2.2.2.2.2.1) then
                  (g_octet_Same (x.1.2.2.2.2.2.2.2.2.2.1, x.2.1.2.2.2.2.2.2.2.2.2.1, ())).bind fun r1 => (
                  if (r1 = true) then
                    (g_octet_Same (x.1.2.2.2.2.2.2.2.2.2.2.1, x.2.1.2.2.2.2.2.2.2.2.2.2.1, ())).bind fun r2 => (
                    if (r2 = true) then
                      (g_octet_Same (x.1.2.2.2.2.2.2.2.2.2.2.2.1, x.2.1.2.2.2.2.2.2.2.2.2.2.2.1, ())).bind fun r3 => (
                      some (decide (r3 = true)))
                    else
                      some false)
                  else
                    some false)
                else
                  some false
              else
                some false
            else
              some false
          else
            some false
        else
          some false
      else
        some false
    else
      some false
  else
    some false
theorem p_msg_Same_eq (N : Nat) (x : Ds [.cat [.int .i64, .int .i64, .int .i64, .int .u32, .int .u32, .int .u64, .int .u64, .int .i64, .int .i64, .sl (.int .u8), .sl (.int .u8), .sl (.int .u8)], .cat [.int .i64, .int .i64, .int .i64, .int .u32, .int .u32, .int .u64, .int .u64, .int .i64, .int .i64, .sl (.int .u8), .sl (.int .u8), .sl (.int .u8)]]) : funL p_msg_Same_E p_msg_Same_H (LT.nil) N Go.Proofs.Try.f27 p_msg_Same_c [.cat [.int .i64, .int .i64, .int .i64, .int .u32, .int .u32, .int .u64, .int .u64, .int .i64, .int .i64, .sl (.int .u8), .sl (.int .u8), .sl (.int .u8)], .cat [.int .i64, .int .i64, .int .i64, .int .u32, .int .u32, .int .u64, .int .u64, .int .i64, .int .i64, .sl (.int .u8), .sl (.int .u8), .sl (.int .u8)]] [.bool] x = p_msg_Same N x := by kernel_rfl
theorem p_msg_Same_Eok (he_octet_Same : SigOk Go.Proofs.Try.prog 52 ⟨[.sl (.int .u8), .sl (.int .u8)], [.bool], g_octet_Same⟩) : p_msg_Same_E.Ok Go.Proofs.Try.prog := AE.ofQ_ok (all_cons ty3_ok (all_cons ty25_ok (all_cons ty28_ok (all_cons ty29_ok (all_cons ty31_ok all_nil))))) (all_cons ⟨he_octet_Same, enters_octet_Same⟩ all_nil) (all_cons steq28_ok all_nil)
theorem p_msg_Same_ok (he_octet_Same : SigOk Go.Proofs.Try.prog 52 ⟨[.sl (.int .u8), .sl (.int .u8)], [.bool], g_octet_Same⟩) {g : Ds [.cat [.int .i64, .int .i64, .int .i64, .int .u32, .int .u32, .int .u64, .int .u64, .int .i64, .int .i64, .sl (.int .u8), .sl (.int .u8), .sl (.int .u8)], .cat [.int .i64, .int .i64, .int .i64, .int .u32, .int .u32, .int .u64, .int .u64, .int .i64, .int .i64, .sl (.int .u8), .sl (.int .u8), .sl (.int .u8)]] → Option (Rs [.bool])} (hg : ∀ x r, g x = some r → ∃ N, p_msg_Same N x = some r) : SigOk Go.Proofs.Try.prog 27 ⟨[.cat [.int .i64, .int .i64, .int .i64, .int .u32, .int .u32, .int .u64, .int .u64, .int .i64, .int .i64, .sl (.int .u8), .sl (.int .u8), .sl (.int .u8)], .cat [.int .i64, .int .i64, .int .i64, .int .u32, .int .u32, .int .u64, .int .u64, .int .i64, .int .i64, .sl (.int .u8), .sl (.int .u8), .sl (.int .u8)]], [.bool], g⟩ :=
  fun_of (E := p_msg_Same_E) (H := p_msg_Same_H) (L := fun N => LT.nil) (c := p_msg_Same_c) (ks := p_msg_Same_ks) (rs := p_msg_Same_rs) (F := p_msg_Same) (p_msg_Same_Eok he_octet_Same) mix Go.Proofs.Try.func27 (by kernel_rfl) (fun N => OkAll.nil) p_msg_Same_eq hg

/-! livery/liveryref21.Same -/
noncomputable def p_ref21_Same_E : AE := AE.ofQ [(3, ty3), (25, ty25), (28, ty28), (29, ty29), (31, ty31)] [(19, ⟨[.sl (.int .u8), .sl (.int .u8)], [.bool], g_ref01_Equal⟩)] [(28, .u64, 2)]
noncomputable def p_ref21_Same_H : Hints := [(3000000, [4])]
noncomputable def p_ref21_Same_c : Code := (Go.Proofs.Try.f28).body.getD .skip
abbrev p_ref21_Same_ks : List Kd := [.cat [.int .i64, .int .i64, .int .i64, .int .u32, .int .u32, .int .u64, .int .u64, .int .i64, .int .i64, .sl (.int .u8), .sl (.int .u8), .sl (.int .u8)], .cat [.int .i64, .int .i64, .int .i64, .int .u32, .int .u32, .int .u64, .int .u64, .int .i64, .int .i64, .sl (.int .u8), .sl (.int .u8), .sl (.int .u8)]]
abbrev p_ref21_Same_rs : List Kd := [.bool]
noncomputable def p_ref21_Same (N : Nat) (x : (Int × Int × Int × Int × Int × Int × Int × Int × Int × List Int × List Int × List Int × Unit) × (Int × Int × Int × Int × Int × Int × Int × Int × Int × List Int × List Int × List Int × Unit) × Unit) : Option (Bool) :=
  if (x.1.1 = x.2.1.1) then
    if (x.1.2.1 = x.2.1.2.1) then
      if (x.1.2.2.1 = x.2.1.2.2.1) then
        if (x.1.2.2.2.1 = x.2.1.2.2.2.1) then
          if (x.1.2.2.2.2.1 = x.2.1.2.2.2.2.1) then
            if ((x.1.2.2.2.2.2.1 :: (x.1.2.2.2.2.2.2.1 :: [])) = (x.2.1.2.2.2.2.2.1 :: (x.2.1.2.2.2.2.2.2.1 :: []))) then
              if (x.1.2.2.2.2.2.2.2.1 = x.2.1.2.2.2.2.2.2.2.1) then
                if (x.1.2.2.2.2.2.2.2.2.1 = x.2.1.2.2.2.2.2.2.2.2.1) then
                  (g_ref01_Equal (x.1.2.2.2.2.2.2.2.2.2.1, x.2.1.2.2.2.2.2.2.2.2.2.1, ())).bind fun r1 => (
                  if (r1 = true) then
                    (g_ref01_Equal (x.1.2.2.2.2.2.2.2.2.2.2.1, x.2.1.2.2.2.2.2.2.2.2.2.2.1, ())).bind fun r2 => (
                    if (r2 = true) then
                      (g_ref01_Equal (x.1.2.2.2.2.2.2.2.2.2.2.2.1, x.2.1.2.2.2.2.2.2.2.2.2.2.2.1, ())).bind fun r3 => (
                      some (decide (r3 = true)))
                    else
                      some false)
                  else
                    some false)
                else
                  some false
              else
                some false
            else
              some false
          else
            some false
        else
          some false
      else
        some false
    else
      some false
  else
    some false
theorem p_ref21_Same_eq (N : Nat) (x : Ds [.cat [.int .i64, .int .i64, .int .i64, .int .u32, .int .u32, .int .u64, .int .u64, .int .i64, .int .i64, .sl (.int .u8), .sl (.int .u8), .sl (.int .u8)], .cat [.int .i64, .int .i64, .int .i64, .int .u32, .int .u32, .int .u64, .int .u64, .int .i64, .int .i64, .sl (.int .u8), .sl (.int .u8), .sl (.int .u8)]]) : funL p_ref21_Same_E p_ref21_Same_H (LT.nil) N Go.Proofs.Try.f28 p_ref21_Same_c [.cat [.int .i64, .int .i64, .int .i64, .int .u32, .int .u32, .int .u64, .int .u64, .int .i64, .int .i64, .sl (.int .u8), .sl (.int .u8), .sl (.int .u8)], .cat [.int .i64, .int .i64, .int .i64, .int .u32, .int .u32, .int .u64, .int .u64, .int .i64, .int .i64, .sl (.int .u8), .sl (.int .u8), .sl (.int .u8)]] [.bool] x = p_ref21_Same N x := by kernel_rfl
theorem p_ref21_Same_Eok (he_ref01_Equal : SigOk Go.Proofs.Try.prog 19 ⟨[.sl (.int .u8), .sl (.int .u8)], [.bool], g_ref01_Equal⟩) : p_ref21_Same_E.Ok Go.Proofs.Try.prog := AE.ofQ_ok (all_cons ty3_ok (all_cons ty25_ok (all_cons ty28_ok (all_cons ty29_ok (all_cons ty31_ok all_nil))))) (all_cons ⟨he_ref01_Equal, enters_ref01_Equal⟩ all_nil) (all_cons steq28_ok all_nil)
theorem p_ref21_Same_ok (he_ref01_Equal : SigOk Go.Proofs.Try.prog 19 ⟨[.sl (.int .u8), .sl (.int .u8)], [.bool], g_ref01_Equal⟩) {g : Ds [.cat [.int .i64, .int .i64, .int .i64, .int .u32, .int .u32, .int .u64, .int .u64, .int .i64, .int .i64, .sl (.int .u8), .sl (.int .u8), .sl (.int .u8)], .cat [.int .i64, .int .i64, .int .i64, .int .u32, .int .u32, .int .u64, .int .u64, .int .i64, .int .i64, .sl (.int .u8), .sl (.int .u8), .sl (.int .u8)]] → Option (Rs [.bool])} (hg : ∀ x r, g x = some r → ∃ N, p_ref21_Same N x = some r) : SigOk Go.Proofs.Try.prog 28 ⟨[.cat [.int .i64, .int .i64, .int .i64, .int .u32, .int .u32, .int .u64, .int .u64, .int .i64, .int .i64, .sl (.int .u8), .sl (.int .u8), .sl (.int .u8)], .cat [.int .i64, .int .i64, .int .i64, .int .u32, .int .u32, .int .u64, .int .u64, .int .i64, .int .i64, .sl (.int .u8), .sl (.int .u8), .sl (.int .u8)]], [.bool], g⟩ :=
  fun_of (E := p_ref21_Same_E) (H := p_ref21_Same_H) (L := fun N => LT.nil) (c := p_ref21_Same_c) (ks := p_ref21_Same_ks) (rs := p_ref21_Same_rs) (F := p_ref21_Same) (p_ref21_Same_Eok he_ref01_Equal) mix Go.Proofs.Try.func28 (by kernel_rfl) (fun N => OkAll.nil) p_ref21_Same_eq hg

/-! livery/msg.Words -/
noncomputable def p_msg_Words_E : AE := AE.ofQ [(3, ty3), (5, ty5), (29, ty29), (31, ty31), (42, ty42)] [(25, ⟨[.cat [.int .i64, .int .i64, .int .i64, .int .u32, .int .u32, .int .u64, .int .u64, .int .i64, .int .i64, .sl (.int .u8), .sl (.int .u8), .sl (.int .u8)]], [.int .i64], g_msg_Check⟩), (36, ⟨[.int .i64, .int .i32], [.bool], g_msg_has⟩), (34, ⟨[.cat [.int .i64, .int .i64, .int .i64, .int .u32, .int .u32, .int .u64, .int .u64, .int .i64, .int .i64, .sl (.int .u8), .sl (.int .u8), .sl (.int .u8)], .bool], [.sl (.int .u8)], g_msg_form⟩), (37, ⟨[.sls (.int .u8)], [.sl (.int .u8)], g_octet_Join⟩)] [(28, .u64, 2)]
noncomputable def p_msg_Words_H : Hints := [(3000000, [2])]
noncomputable def p_msg_Words_c : Code := (Go.Proofs.Try.f20).body.getD .skip
abbrev p_msg_Words_ks : List Kd := [.cat [.int .i64, .int .i64, .int .i64, .int .u32, .int .u32, .int .u64, .int .u64, .int .i64, .int .i64, .sl (.int .u8), .sl (.int .u8), .sl (.int .u8)]]
abbrev p_msg_Words_rs : List Kd := [.sl (.int .u8)]
noncomputable def p_msg_Words (N : Nat) (x : (Int × Int × Int × Int × Int × Int × Int × Int × Int × List Int × List Int × List Int × Unit) × Unit) : Option (List Int) :=
  (g_msg_Check ((x.1.1, x.1.2.1, x.1.2.2.1, x.1.2.2.2.1, x.1.2.2.2.2.1, x.1.2.2.2.2.2.1, x.1.2.2.2.2.2.2.1, x.1.2.2.2.2.2.2.2.1, x.1.2.2.2.2.2.2.2.2.1, x.1.2.2.2.2.2.2.2.2.2.1, x.1.2.2.2.2.2.2.2.2.2.2.1, x.1.2.2.2.2.2.2.2.2.2.2.2.1, ()), ())).bind fun r1 => (
  if (r1 ≠ (0:Int)) then
    some []
  else
    (g_msg_has (x.1.1, (115:Int), ())).bind fun r2 => (
    if (¬ (r2 = true)) then
      some []
    else
      if 0 < 14 then (
      (g_msg_form ((x.1.1, x.1.2.1, x.1.2.2.1, x.1.2.2.2.1, x.1.2.2.2.2.1, x.1.2.2.2.2.2.1, x.1.2.2.2.2.2.2.1, x.1.2.2.2.2.2.2.2.1, x.1.2.2.2.2.2.2.2.2.1, x.1.2.2.2.2.2.2.2.2.2.1, x.1.2.2.2.2.2.2.2.2.2.2.1, x.1.2.2.2.2.2.2.2.2.2.2.2.1, ()), false, ())).bind fun r3 => (
      (g_octet_Join ([(List.set (List.set (List.set (List.set (List.set (List.set (List.set (List.set (List.set (List.set (List.set (List.set (List.set (List.set (List.replicate 14 0) 0 (108:Int)) 1 (105:Int)) 2 (118:Int)) 3 (101:Int)) 4 (114:Int)) 5 (121:Int)) 6 (32:Int)) 7 (97:Int)) 8 (116:Int)) 9 (116:Int)) 10 (101:Int)) 11 (115:Int)) 12 (116:Int)) 13 (115:Int)), r3], ())).bind fun r4 => (
      some r4))) else none))
theorem p_msg_Words_eq (N : Nat) (x : Ds [.cat [.int .i64, .int .i64, .int .i64, .int .u32, .int .u32, .int .u64, .int .u64, .int .i64, .int .i64, .sl (.int .u8), .sl (.int .u8), .sl (.int .u8)]]) : funL p_msg_Words_E p_msg_Words_H (LT.nil) N Go.Proofs.Try.f20 p_msg_Words_c [.cat [.int .i64, .int .i64, .int .i64, .int .u32, .int .u32, .int .u64, .int .u64, .int .i64, .int .i64, .sl (.int .u8), .sl (.int .u8), .sl (.int .u8)]] [.sl (.int .u8)] x = p_msg_Words N x := by kernel_rfl
theorem p_msg_Words_Eok (he_msg_Check : SigOk Go.Proofs.Try.prog 25 ⟨[.cat [.int .i64, .int .i64, .int .i64, .int .u32, .int .u32, .int .u64, .int .u64, .int .i64, .int .i64, .sl (.int .u8), .sl (.int .u8), .sl (.int .u8)]], [.int .i64], g_msg_Check⟩) (he_msg_has : SigOk Go.Proofs.Try.prog 36 ⟨[.int .i64, .int .i32], [.bool], g_msg_has⟩) (he_msg_form : SigOk Go.Proofs.Try.prog 34 ⟨[.cat [.int .i64, .int .i64, .int .i64, .int .u32, .int .u32, .int .u64, .int .u64, .int .i64, .int .i64, .sl (.int .u8), .sl (.int .u8), .sl (.int .u8)], .bool], [.sl (.int .u8)], g_msg_form⟩) (he_octet_Join : SigOk Go.Proofs.Try.prog 37 ⟨[.sls (.int .u8)], [.sl (.int .u8)], g_octet_Join⟩) : p_msg_Words_E.Ok Go.Proofs.Try.prog := AE.ofQ_ok (all_cons ty3_ok (all_cons ty5_ok (all_cons ty29_ok (all_cons ty31_ok (all_cons ty42_ok all_nil))))) (all_cons ⟨he_msg_Check, enters_msg_Check⟩ (all_cons ⟨he_msg_has, enters_msg_has⟩ (all_cons ⟨he_msg_form, enters_msg_form⟩ (all_cons ⟨he_octet_Join, enters_octet_Join⟩ all_nil)))) (all_cons steq28_ok all_nil)
theorem p_msg_Words_ok (he_msg_Check : SigOk Go.Proofs.Try.prog 25 ⟨[.cat [.int .i64, .int .i64, .int .i64, .int .u32, .int .u32, .int .u64, .int .u64, .int .i64, .int .i64, .sl (.int .u8), .sl (.int .u8), .sl (.int .u8)]], [.int .i64], g_msg_Check⟩) (he_msg_has : SigOk Go.Proofs.Try.prog 36 ⟨[.int .i64, .int .i32], [.bool], g_msg_has⟩) (he_msg_form : SigOk Go.Proofs.Try.prog 34 ⟨[.cat [.int .i64, .int .i64, .int .i64, .int .u32, .int .u32, .int .u64, .int .u64, .int .i64, .int .i64, .sl (.int .u8), .sl (.int .u8), .sl (.int .u8)], .bool], [.sl (.int .u8)], g_msg_form⟩) (he_octet_Join : SigOk Go.Proofs.Try.prog 37 ⟨[.sls (.int .u8)], [.sl (.int .u8)], g_octet_Join⟩) {g : Ds [.cat [.int .i64, .int .i64, .int .i64, .int .u32, .int .u32, .int .u64, .int .u64, .int .i64, .int .i64, .sl (.int .u8), .sl (.int .u8), .sl (.int .u8)]] → Option (Rs [.sl (.int .u8)])} (hg : ∀ x r, g x = some r → ∃ N, p_msg_Words N x = some r) : SigOk Go.Proofs.Try.prog 20 ⟨[.cat [.int .i64, .int .i64, .int .i64, .int .u32, .int .u32, .int .u64, .int .u64, .int .i64, .int .i64, .sl (.int .u8), .sl (.int .u8), .sl (.int .u8)]], [.sl (.int .u8)], g⟩ :=
  fun_of (E := p_msg_Words_E) (H := p_msg_Words_H) (L := fun N => LT.nil) (c := p_msg_Words_c) (ks := p_msg_Words_ks) (rs := p_msg_Words_rs) (F := p_msg_Words) (p_msg_Words_Eok he_msg_Check he_msg_has he_msg_form he_octet_Join) mix Go.Proofs.Try.func20 (by kernel_rfl) (fun N => OkAll.nil) p_msg_Words_eq hg

/-! slices.Index[[]bool,bool] -/
noncomputable def p_slices_Indexbool_bool_E : AE := AE.ofQ [(4, ty4), (43, ty43)] [] [(28, .u64, 2)]
noncomputable def p_slices_Indexbool_bool_H : Hints := [(2, [0, 1, 7, 8, 999999]), (2000000, []), (2000001, [0, 1, 7, 8]), (3000000, [4])]
noncomputable def p_slices_Indexbool_bool_c : Code := (Go.Proofs.Try.f39).body.getD .skip
noncomputable def p_slices_Indexbool_bool_l2_S : Shape where
  h := { tmps := [.sc (.vec 0 none 1), .sc (.bool), .any, .any, .any, .any, .any, .sc (.int .i64), .sc (.int .i64), .any, .any, .any, .any, .any, .any, .any, .any, .any, .any], mem := [.live [.xs .bool none] (.ro)] }
  ks := [.nat, .bool, .int, .int, .nat, .xs]
  st := fun x => { tmps := [.one (.sc (.vec 0 x.1 1)), .one (.sc (.known x.2.1)), .one .any, .one .any, .one .any, .one .any, .one .any, .one (.sc (.int .i64 x.2.2.1)), .one (.sc (.int .i64 x.2.2.2.1)), .one .any, .one .any, .one .any, .one .any, .one .any, .one .any, .one .any, .one .any, .one .any, .one .any], mem := [.live { segs := [.xs .bool x.2.2.2.2.1 x.2.2.2.2.2.1], own := .ro }] }
noncomputable def p_slices_Indexbool_bool_l2_F (N : Nat) (β : Type) (x : (Nat × Bool × Int × Int × Nat × List Int × Unit)) (kn : (Nat × Bool × Int × Int × Nat × List Int × Unit) → Option β) (ke : ((Int × Unit) ⊕ (Unit)) → Option β) : Option β :=
  if (x.2.2.2.1 < x.2.2.1) then
    if 0 ≤ x.2.2.2.1 then (
    if x.2.2.2.1 < ((x.1 : Nat) : Int) then (
    if (x.2.2.2.1.toNat) < x.2.2.2.2.1 then (
    if ((decide (x.2.1 = true)) = (decide ((List.getD x.2.2.2.2.2.1 (x.2.2.2.1.toNat) 0) ≠ 0))) then
      ke (.inl (x.2.2.2.1, ()))
    else
      kn (x.1, (decide (x.2.1 = true)), x.2.2.1, (IntKind.i64.wrap (x.2.2.2.1 + (1:Int))), x.2.2.2.2.1, x.2.2.2.2.2.1, ())) else none) else none) else none
  else
    ke (.inr (()))
noncomputable def p_slices_Indexbool_bool_l2_go : Go' ((Int × Unit) ⊕ (Unit)) := fun y K => match y with
  | .inl y => K .ret { tmps := [.one .any, .one .any, .one .any, .one .any, .one (.sc (.int .i64 y.1)), .one .any, .one .any, .one .any, .one .any, .one .any, .one .any, .one .any, .one .any, .one .any, .one .any, .one .any, .one .any, .one .any, .one .any], mem := [] }
  | .inr y => K (.exit 0) { tmps := [.one .any, .one .any, .one .any, .one .any, .one .any, .one .any, .one .any, .one .any, .one .any, .one .any, .one .any, .one .any, .one .any, .one .any, .one .any, .one .any, .one .any, .one .any, .one .any], mem := [] }
noncomputable def p_slices_Indexbool_bool_l2_L (N : Nat) : LT := upd (LT.nil) 2 (loopE p_slices_Indexbool_bool_l2_S N (p_slices_Indexbool_bool_l2_F N) p_slices_Indexbool_bool_l2_go)
theorem p_slices_Indexbool_bool_l2_ok (N : Nat) : OkAll p_slices_Indexbool_bool_E p_slices_Indexbool_bool_H N (p_slices_Indexbool_bool_l2_L N) (subs p_slices_Indexbool_bool_c) :=
  addLoop (c := theLoop 2 p_slices_Indexbool_bool_c) (OkAll.nil) (by kernel_rfl) (fun x => by kernel_rfl) (fun β x kn ke => by kernel_rfl)
abbrev p_slices_Indexbool_bool_ks : List Kd := [.sl .bool, .bool]
abbrev p_slices_Indexbool_bool_rs : List Kd := [.int .i64]
noncomputable def p_slices_Indexbool_bool (N : Nat) (x : List Int × Bool × Unit) : Option (Int) :=
  iter (p_slices_Indexbool_bool_l2_F N) N ((List.length x.1), (decide (x.2.1 = true)), (((List.length x.1) : Nat) : Int), (0:Int), (List.length x.1), x.1, ()) fun y => (match y with
  | .inl y1 => (
    some y1.1)
  | .inr y2 => (
    some (-1:Int)))
theorem p_slices_Indexbool_bool_eq (N : Nat) (x : Ds [.sl .bool, .bool]) : funL p_slices_Indexbool_bool_E p_slices_Indexbool_bool_H (p_slices_Indexbool_bool_l2_L N) N Go.Proofs.Try.f39 p_slices_Indexbool_bool_c [.sl .bool, .bool] [.int .i64] x = p_slices_Indexbool_bool N x := by kernel_rfl
theorem p_slices_Indexbool_bool_Eok : p_slices_Indexbool_bool_E.Ok Go.Proofs.Try.prog := AE.ofQ_ok (all_cons ty4_ok (all_cons ty43_ok all_nil)) all_nil (all_cons steq28_ok all_nil)
theorem p_slices_Indexbool_bool_ok {g : Ds [.sl .bool, .bool] → Option (Rs [.int .i64])} (hg : ∀ x r, g x = some r → ∃ N, p_slices_Indexbool_bool N x = some r) : SigOk Go.Proofs.Try.prog 39 ⟨[.sl .bool, .bool], [.int .i64], g⟩ :=
  fun_of (E := p_slices_Indexbool_bool_E) (H := p_slices_Indexbool_bool_H) (L := fun N => p_slices_Indexbool_bool_l2_L N) (c := p_slices_Indexbool_bool_c) (ks := p_slices_Indexbool_bool_ks) (rs := p_slices_Indexbool_bool_rs) (F := p_slices_Indexbool_bool) (p_slices_Indexbool_bool_Eok) mix Go.Proofs.Try.func39 (by kernel_rfl) (fun N => p_slices_Indexbool_bool_l2_ok N) p_slices_Indexbool_bool_eq hg

/-! livery/msg.Missing -/
noncomputable def p_msg_Missing_E : AE := AE.ofQ [(3, ty3), (4, ty4), (29, ty29), (31, ty31), (43, ty43)] [(25, ⟨[.cat [.int .i64, .int .i64, .int .i64, .int .u32, .int .u32, .int .u64, .int .u64, .int .i64, .int .i64, .sl (.int .u8), .sl (.int .u8), .sl (.int .u8)]], [.int .i64], g_msg_Check⟩), (40, ⟨[.sl (.int .u8)], [.sl .bool], g_octet_Bits⟩), (39, ⟨[.sl .bool, .bool], [.int .i64], g_slices_Indexbool_bool⟩)] [(28, .u64, 2)]
noncomputable def p_msg_Missing_H : Hints := [(3000000, [2])]
noncomputable def p_msg_Missing_c : Code := (Go.Proofs.Try.f22).body.getD .skip
abbrev p_msg_Missing_ks : List Kd := [.cat [.int .i64, .int .i64, .int .i64, .int .u32, .int .u32, .int .u64, .int .u64, .int .i64, .int .i64, .sl (.int .u8), .sl (.int .u8), .sl (.int .u8)]]
abbrev p_msg_Missing_rs : List Kd := [.int .i64]
noncomputable def p_msg_Missing (N : Nat) (x : (Int × Int × Int × Int × Int × Int × Int × Int × Int × List Int × List Int × List Int × Unit) × Unit) : Option (Int) :=
  if (x.1.1 ≠ (4:Int)) then
    some (-1:Int)
  else
    (g_msg_Check ((x.1.1, x.1.2.1, x.1.2.2.1, x.1.2.2.2.1, x.1.2.2.2.2.1, x.1.2.2.2.2.2.1, x.1.2.2.2.2.2.2.1, x.1.2.2.2.2.2.2.2.1, x.1.2.2.2.2.2.2.2.2.1, x.1.2.2.2.2.2.2.2.2.2.1, x.1.2.2.2.2.2.2.2.2.2.2.1, x.1.2.2.2.2.2.2.2.2.2.2.2.1, ()), ())).bind fun r1 => (
    if (r1 ≠ (0:Int)) then
      some (-1:Int)
    else
      (g_octet_Bits (x.1.2.2.2.2.2.2.2.2.2.1, ())).bind fun r2 => (
      if 0 ≤ x.1.2.2.2.2.2.2.2.2.1 then (
      if x.1.2.2.2.2.2.2.2.2.1 ≤ (((List.length r2) : Nat) : Int) then (
      (g_slices_Indexbool_bool ((List.take (x.1.2.2.2.2.2.2.2.2.1.toNat) (List.drop 0 r2)), false, ())).bind fun r3 => (
      if (r3 < (0:Int)) then
        some x.1.2.2.2.2.2.2.2.2.1
      else
        some r3)) else none) else none))
theorem p_msg_Missing_eq (N : Nat) (x : Ds [.cat [.int .i64, .int .i64, .int .i64, .int .u32, .int .u32, .int .u64, .int .u64, .int .i64, .int .i64, .sl (.int .u8), .sl (.int .u8), .sl (.int .u8)]]) : funL p_msg_Missing_E p_msg_Missing_H (LT.nil) N Go.Proofs.Try.f22 p_msg_Missing_c [.cat [.int .i64, .int .i64, .int .i64, .int .u32, .int .u32, .int .u64, .int .u64, .int .i64, .int .i64, .sl (.int .u8), .sl (.int .u8), .sl (.int .u8)]] [.int .i64] x = p_msg_Missing N x := by kernel_rfl
theorem p_msg_Missing_Eok (he_msg_Check : SigOk Go.Proofs.Try.prog 25 ⟨[.cat [.int .i64, .int .i64, .int .i64, .int .u32, .int .u32, .int .u64, .int .u64, .int .i64, .int .i64, .sl (.int .u8), .sl (.int .u8), .sl (.int .u8)]], [.int .i64], g_msg_Check⟩) (he_octet_Bits : SigOk Go.Proofs.Try.prog 40 ⟨[.sl (.int .u8)], [.sl .bool], g_octet_Bits⟩) (he_slices_Indexbool_bool : SigOk Go.Proofs.Try.prog 39 ⟨[.sl .bool, .bool], [.int .i64], g_slices_Indexbool_bool⟩) : p_msg_Missing_E.Ok Go.Proofs.Try.prog := AE.ofQ_ok (all_cons ty3_ok (all_cons ty4_ok (all_cons ty29_ok (all_cons ty31_ok (all_cons ty43_ok all_nil))))) (all_cons ⟨he_msg_Check, enters_msg_Check⟩ (all_cons ⟨he_octet_Bits, enters_octet_Bits⟩ (all_cons ⟨he_slices_Indexbool_bool, enters_slices_Indexbool_bool⟩ all_nil))) (all_cons steq28_ok all_nil)
theorem p_msg_Missing_ok (he_msg_Check : SigOk Go.Proofs.Try.prog 25 ⟨[.cat [.int .i64, .int .i64, .int .i64, .int .u32, .int .u32, .int .u64, .int .u64, .int .i64, .int .i64, .sl (.int .u8), .sl (.int .u8), .sl (.int .u8)]], [.int .i64], g_msg_Check⟩) (he_octet_Bits : SigOk Go.Proofs.Try.prog 40 ⟨[.sl (.int .u8)], [.sl .bool], g_octet_Bits⟩) (he_slices_Indexbool_bool : SigOk Go.Proofs.Try.prog 39 ⟨[.sl .bool, .bool], [.int .i64], g_slices_Indexbool_bool⟩) {g : Ds [.cat [.int .i64, .int .i64, .int .i64, .int .u32, .int .u32, .int .u64, .int .u64, .int .i64, .int .i64, .sl (.int .u8), .sl (.int .u8), .sl (.int .u8)]] → Option (Rs [.int .i64])} (hg : ∀ x r, g x = some r → ∃ N, p_msg_Missing N x = some r) : SigOk Go.Proofs.Try.prog 22 ⟨[.cat [.int .i64, .int .i64, .int .i64, .int .u32, .int .u32, .int .u64, .int .u64, .int .i64, .int .i64, .sl (.int .u8), .sl (.int .u8), .sl (.int .u8)]], [.int .i64], g⟩ :=
  fun_of (E := p_msg_Missing_E) (H := p_msg_Missing_H) (L := fun N => LT.nil) (c := p_msg_Missing_c) (ks := p_msg_Missing_ks) (rs := p_msg_Missing_rs) (F := p_msg_Missing) (p_msg_Missing_Eok he_msg_Check he_octet_Bits he_slices_Indexbool_bool) mix Go.Proofs.Try.func22 (by kernel_rfl) (fun N => OkAll.nil) p_msg_Missing_eq hg

/-! livery/liverylaw21.big -/
noncomputable def p_law21_big_E : AE := AE.ofQ [(29, ty29), (31, ty31)] [] [(28, .u64, 2)]
noncomputable def p_law21_big_H : Hints := [(3000000, [2])]
noncomputable def p_law21_big_c : Code := (Go.Proofs.Try.f16).body.getD .skip
abbrev p_law21_big_ks : List Kd := [.cat [.int .i64, .int .i64, .int .i64, .int .u32, .int .u32, .int .u64, .int .u64, .int .i64, .int .i64, .sl (.int .u8), .sl (.int .u8), .sl (.int .u8)]]
abbrev p_law21_big_rs : List Kd := [.bool]
noncomputable def p_law21_big (N : Nat) (x : (Int × Int × Int × Int × Int × Int × Int × Int × Int × List Int × List Int × List Int × Unit) × Unit) : Option (Bool) :=
  if (((List.length x.1.2.2.2.2.2.2.2.2.2.1 : Nat) : Int) > (9000:Int)) then
    some true
  else
    if (((List.length x.1.2.2.2.2.2.2.2.2.2.2.1 : Nat) : Int) > (9000:Int)) then
      some true
    else
      some (decide (((List.length x.1.2.2.2.2.2.2.2.2.2.2.2.1 : Nat) : Int) > (9000:Int)))
theorem p_law21_big_eq (N : Nat) (x : Ds [.cat [.int .i64, .int .i64, .int .i64, .int .u32, .int .u32, .int .u64, .int .u64, .int .i64, .int .i64, .sl (.int .u8), .sl (.int .u8), .sl (.int .u8)]]) : funL p_law21_big_E p_law21_big_H (LT.nil) N Go.Proofs.Try.f16 p_law21_big_c [.cat [.int .i64, .int .i64, .int .i64, .int .u32, .int .u32, .int .u64, .int .u64, .int .i64, .int .i64, .sl (.int .u8), .sl (.int .u8), .sl (.int .u8)]] [.bool] x = p_law21_big N x := by kernel_rfl
theorem p_law21_big_Eok : p_law21_big_E.Ok Go.Proofs.Try.prog := AE.ofQ_ok (all_cons ty29_ok (all_cons ty31_ok all_nil)) all_nil (all_cons steq28_ok all_nil)
theorem p_law21_big_ok {g : Ds [.cat [.int .i64, .int .i64, .int .i64, .int .u32, .int .u32, .int .u64, .int .u64, .int .i64, .int .i64, .sl (.int .u8), .sl (.int .u8), .sl (.int .u8)]] → Option (Rs [.bool])} (hg : ∀ x r, g x = some r → ∃ N, p_law21_big N x = some r) : SigOk Go.Proofs.Try.prog 16 ⟨[.cat [.int .i64, .int .i64, .int .i64, .int .u32, .int .u32, .int .u64, .int .u64, .int .i64, .int .i64, .sl (.int .u8), .sl (.int .u8), .sl (.int .u8)]], [.bool], g⟩ :=
  fun_of (E := p_law21_big_E) (H := p_law21_big_H) (L := fun N => LT.nil) (c := p_law21_big_c) (ks := p_law21_big_ks) (rs := p_law21_big_rs) (F := p_law21_big) (p_law21_big_Eok) mix Go.Proofs.Try.func16 (by kernel_rfl) (fun N => OkAll.nil) p_law21_big_eq hg

/-! livery/liverylaw21.MsgMarks -/
noncomputable def p_law21_MsgMarks_E : AE := AE.ofQ [(3, ty3), (4, ty4), (25, ty25), (28, ty28), (29, ty29), (31, ty31), (43, ty43)] [(11, ⟨[], [.bool], g_law21_live⟩), (29, ⟨[.sl .bool], [.sl (.int .u8)], g_msg_Marks⟩), (30, ⟨[.sl .bool], [.sl (.int .u8)], g_ref21_Marks⟩), (19, ⟨[.sl (.int .u8), .sl (.int .u8)], [.bool], g_ref01_Equal⟩), (25, ⟨[.cat [.int .i64, .int .i64, .int .i64, .int .u32, .int .u32, .int .u64, .int .u64, .int .i64, .int .i64, .sl (.int .u8), .sl (.int .u8), .sl (.int .u8)]], [.int .i64], g_msg_Check⟩), (22, ⟨[.cat [.int .i64, .int .i64, .int .i64, .int .u32, .int .u32, .int .u64, .int .u64, .int .i64, .int .i64, .sl (.int .u8), .sl (.int .u8), .sl (.int .u8)]], [.int .i64], g_msg_Missing⟩)] [(28, .u64, 2)]
noncomputable def p_law21_MsgMarks_H : Hints := [(10, [0, 8, 9]), (2000000, [8, 9]), (2000001, [0, 8, 9]), (3000000, [6])]
noncomputable def p_law21_MsgMarks_c : Code := (Go.Proofs.Try.f6).body.getD .skip
noncomputable def p_law21_MsgMarks_l10_S : Shape where
  h := { tmps := [.sc (.vec 0 none 1), .any, .any, .any, .any, .any, .any, .any, .sc (.ptr 1 0 false), .sc (.int .i64), .any, .any, .any, .any, .any, .any, .any, .any, .any, .any, .any, .any, .any, .any, .any, .any, .any, .any, .any, .any, .any, .any, .any, .any, .any, .any, .any, .any, .any, .any, .any, .any, .any, .any, .any, .any, .any, .any, .any, .any, .any, .any, .any], mem := [.live [.xs .bool none] (.ro), .live [.xs (.int .i64) (some 1), .xs (.int .i64) (some 1), .xs (.int .i64) (some 1), .xs (.int .u32) (some 1), .xs (.int .u32) (some 1), .xs (.int .u64) (some 2), .xs (.int .i64) (some 1), .xs (.int .i64) (some 1), .one (.vec 2 none 1), .one (.nilsl), .one (.nilsl)] (.own), .live [.xs (.int .u8) none] (.own)] }
  ks := [.nat, .int, .nat, .xs, .xs, .xs, .xs, .xs, .xs, .xs, .xs, .xs, .nat, .nat, .xs]
  st := fun x => { tmps := [.one (.sc (.vec 0 x.1 1)), .one .any, .one .any, .one .any, .one .any, .one .any, .one .any, .one .any, .one (.sc (.ptr 1 0 none)), .one (.sc (.int .i64 x.2.1)), .one .any, .one .any, .one .any, .one .any, .one .any, .one .any, .one .any, .one .any, .one .any, .one .any, .one .any, .one .any, .one .any, .one .any, .one .any, .one .any, .one .any, .one .any, .one .any, .one .any, .one .any, .one .any, .one .any, .one .any, .one .any, .one .any, .one .any, .one .any, .one .any, .one .any, .one .any, .one .any, .one .any, .one .any, .one .any, .one .any, .one .any, .one .any, .one .any, .one .any, .one .any, .one .any, .one .any], mem := [.live { segs := [.xs .bool x.2.2.1 x.2.2.2.1], own := .ro }, .live { segs := [.xs (.int .i64) 1 x.2.2.2.2.1, .xs (.int .i64) 1 x.2.2.2.2.2.1, .xs (.int .i64) 1 x.2.2.2.2.2.2.1, .xs (.int .u32) 1 x.2.2.2.2.2.2.2.1, .xs (.int .u32) 1 x.2.2.2.2.2.2.2.2.1, .xs (.int .u64) 2 x.2.2.2.2.2.2.2.2.2.1, .xs (.int .i64) 1 x.2.2.2.2.2.2.2.2.2.2.1, .xs (.int .i64) 1 x.2.2.2.2.2.2.2.2.2.2.2.1, .one (.vec 2 x.2.2.2.2.2.2.2.2.2.2.2.2.1 1), .one (.nilsl), .one (.nilsl)], own := .own }, .live { segs := [.xs (.int .u8) x.2.2.2.2.2.2.2.2.2.2.2.2.2.1 x.2.2.2.2.2.2.2.2.2.2.2.2.2.2.1], own := .own }] }
noncomputable def p_law21_MsgMarks_l10_F (N : Nat) (β : Type) (x : (Nat × Int × Nat × List Int × List Int × List Int × List Int × List Int × List Int × List Int × List Int × List Int × Nat × Nat × List Int × Unit)) (kn : (Nat × Int × Nat × List Int × List Int × List Int × List Int × List Int × List Int × List Int × List Int × List Int × Nat × Nat × List Int × Unit) → Option β) (ke : ((Int × List Int × List Int × List Int × List Int × List Int × List Int × List Int × List Int × Nat × Nat × List Int × Unit)) → Option β) : Option β :=
  if (x.2.1 < ((x.1 : Nat) : Int)) then
    if 0 ≤ x.2.1 then (
    if x.2.1 < ((x.1 : Nat) : Int) then (
    if (x.2.1.toNat) < x.2.2.1 then (
    if ((List.getD x.2.2.2.1 (x.2.1.toNat) 0) ≠ 0) then
      kn (x.1, (IntKind.i64.wrap (x.2.1 + (1:Int))), x.2.2.1, x.2.2.2.1, x.2.2.2.2.1, x.2.2.2.2.2.1, x.2.2.2.2.2.2.1, x.2.2.2.2.2.2.2.1, x.2.2.2.2.2.2.2.2.1, x.2.2.2.2.2.2.2.2.2.1, x.2.2.2.2.2.2.2.2.2.2.1, x.2.2.2.2.2.2.2.2.2.2.2.1, x.2.2.2.2.2.2.2.2.2.2.2.2.1, x.2.2.2.2.2.2.2.2.2.2.2.2.2.1, x.2.2.2.2.2.2.2.2.2.2.2.2.2.2.1, ())
    else
      ke (x.2.1, x.2.2.2.2.1, x.2.2.2.2.2.1, x.2.2.2.2.2.2.1, x.2.2.2.2.2.2.2.1, x.2.2.2.2.2.2.2.2.1, x.2.2.2.2.2.2.2.2.2.1, x.2.2.2.2.2.2.2.2.2.2.1, x.2.2.2.2.2.2.2.2.2.2.2.1, x.2.2.2.2.2.2.2.2.2.2.2.2.1, x.2.2.2.2.2.2.2.2.2.2.2.2.2.1, x.2.2.2.2.2.2.2.2.2.2.2.2.2.2.1, ())) else none) else none) else none
  else
    ke (x.2.1, x.2.2.2.2.1, x.2.2.2.2.2.1, x.2.2.2.2.2.2.1, x.2.2.2.2.2.2.2.1, x.2.2.2.2.2.2.2.2.1, x.2.2.2.2.2.2.2.2.2.1, x.2.2.2.2.2.2.2.2.2.2.1, x.2.2.2.2.2.2.2.2.2.2.2.1, x.2.2.2.2.2.2.2.2.2.2.2.2.1, x.2.2.2.2.2.2.2.2.2.2.2.2.2.1, x.2.2.2.2.2.2.2.2.2.2.2.2.2.2.1, ())
noncomputable def p_law21_MsgMarks_l10_go : Go' ((Int × List Int × List Int × List Int × List Int × List Int × List Int × List Int × List Int × Nat × Nat × List Int × Unit)) := fun y K => K (.exit 0) { tmps := [.one .any, .one .any, .one .any, .one .any, .one .any, .one .any, .one .any, .one .any, .one (.sc (.ptr 0 0 none)), .one (.sc (.int .i64 y.1)), .one .any, .one .any, .one .any, .one .any, .one .any, .one .any, .one .any, .one .any, .one .any, .one .any, .one .any, .one .any, .one .any, .one .any, .one .any, .one .any, .one .any, .one .any, .one .any, .one .any, .one .any, .one .any, .one .any, .one .any, .one .any, .one .any, .one .any, .one .any, .one .any, .one .any, .one .any, .one .any, .one .any, .one .any, .one .any, .one .any, .one .any, .one .any, .one .any, .one .any, .one .any, .one .any, .one .any], mem := [.live { segs := [.xs (.int .i64) 1 y.2.1, .xs (.int .i64) 1 y.2.2.1, .xs (.int .i64) 1 y.2.2.2.1, .xs (.int .u32) 1 y.2.2.2.2.1, .xs (.int .u32) 1 y.2.2.2.2.2.1, .xs (.int .u64) 2 y.2.2.2.2.2.2.1, .xs (.int .i64) 1 y.2.2.2.2.2.2.2.1, .xs (.int .i64) 1 y.2.2.2.2.2.2.2.2.1, .one (.vec 1 y.2.2.2.2.2.2.2.2.2.1 1), .one (.nilsl), .one (.nilsl)], own := .own }, .live { segs := [.xs (.int .u8) y.2.2.2.2.2.2.2.2.2.2.1 y.2.2.2.2.2.2.2.2.2.2.2.1], own := .own }] }
noncomputable def p_law21_MsgMarks_l10_L (N : Nat) : LT := upd (LT.nil) 10 (loopE p_law21_MsgMarks_l10_S N (p_law21_MsgMarks_l10_F N) p_law21_MsgMarks_l10_go)
theorem p_law21_MsgMarks_l10_ok (N : Nat) : OkAll p_law21_MsgMarks_E p_law21_MsgMarks_H N (p_law21_MsgMarks_l10_L N) (subs p_law21_MsgMarks_c) :=
  addLoop (c := theLoop 10 p_law21_MsgMarks_c) (OkAll.nil) (by kernel_rfl) (fun x => by kernel_rfl) (fun β x kn ke => by kernel_rfl)
abbrev p_law21_MsgMarks_ks : List Kd := [.sl .bool, .int .i64, .int .i64]
abbrev p_law21_MsgMarks_rs : List Kd := [.bool]
noncomputable def p_law21_MsgMarks (N : Nat) (x : List Int × Int × Int × Unit) : Option (Bool) :=
  (g_law21_live (())).bind fun r1 => (
  if (¬ (r1 = true)) then
    (g_law21_live (())).bind fun r2 => (
    some (decide (r2 = true)))
  else
    if ((((List.length x.1) : Nat) : Int) > (1000:Int)) then
      (g_law21_live (())).bind fun r3 => (
      some (decide (r3 = true)))
    else
      (g_msg_Marks (x.1, ())).bind fun r4 => (
      (g_ref21_Marks (x.1, ())).bind fun r5 => (
      (g_ref01_Equal (r4, r5, ())).bind fun r6 => (
      if (¬ (r6 = true)) then
        some false
      else
        (g_msg_Check (((List.getD (List.set [0] 0 (4:Int)) 0 0), (List.getD (List.set [0] 0 x.2.1) 0 0), (List.getD (List.set [0] 0 x.2.2.1) 0 0), (List.getD [0] 0 0), (List.getD [0] 0 0), (List.getD (List.take 1 (List.replicate 2 0)) 0 0), (List.getD (List.drop 1 (List.replicate 2 0)) 0 0), (List.getD [0] 0 0), (List.getD (List.set [0] 0 (((List.length x.1) : Nat) : Int)) 0 0), r4, [], [], ()), ())).bind fun r7 => (
        if (r7 ≠ (0:Int)) then
          (g_msg_Missing (((List.getD (List.set [0] 0 (4:Int)) 0 0), (List.getD (List.set [0] 0 x.2.1) 0 0), (List.getD (List.set [0] 0 x.2.2.1) 0 0), (List.getD [0] 0 0), (List.getD [0] 0 0), (List.getD (List.take 1 (List.replicate 2 0)) 0 0), (List.getD (List.drop 1 (List.replicate 2 0)) 0 0), (List.getD [0] 0 0), (List.getD (List.set [0] 0 (((List.length x.1) : Nat) : Int)) 0 0), r4, [], [], ()), ())).bind fun r8 => (
          some (decide (r8 = (-1:Int))))
        else
          iter (p_law21_MsgMarks_l10_F N) N ((List.length x.1), (0:Int), (List.length x.1), x.1, (List.set [0] 0 (4:Int)), (List.set [0] 0 x.2.1), (List.set [0] 0 x.2.2.1), [0], [0], (List.replicate 2 0), [0], (List.set [0] 0 (((List.length x.1) : Nat) : Int)), (List.length r4), (List.length r4), r4, ()) fun y9 => (
          (g_msg_Missing (((List.getD y9.2.1 0 0), (List.getD y9.2.2.1 0 0), (List.getD y9.2.2.2.1 0 0), (List.getD y9.2.2.2.2.1 0 0), (List.getD y9.2.2.2.2.2.1 0 0), (List.getD (List.take 1 y9.2.2.2.2.2.2.1) 0 0), (List.getD (List.drop 1 y9.2.2.2.2.2.2.1) 0 0), (List.getD y9.2.2.2.2.2.2.2.1 0 0), (List.getD y9.2.2.2.2.2.2.2.2.1 0 0), y9.2.2.2.2.2.2.2.2.2.2.2.1, [], [], ()), ())).bind fun r10 => (
          some (decide (r10 = y9.1)))))))))
theorem p_law21_MsgMarks_eq (N : Nat) (x : Ds [.sl .bool, .int .i64, .int .i64]) : funL p_law21_MsgMarks_E p_law21_MsgMarks_H (p_law21_MsgMarks_l10_L N) N Go.Proofs.Try.f6 p_law21_MsgMarks_c [.sl .bool, .int .i64, .int .i64] [.bool] x = p_law21_MsgMarks N x := by kernel_rfl
theorem p_law21_MsgMarks_Eok (he_law21_live : SigOk Go.Proofs.Try.prog 11 ⟨[], [.bool], g_law21_live⟩) (he_msg_Marks : SigOk Go.Proofs.Try.prog 29 ⟨[.sl .bool], [.sl (.int .u8)], g_msg_Marks⟩) (he_ref21_Marks : SigOk Go.Proofs.Try.prog 30 ⟨[.sl .bool], [.sl (.int .u8)], g_ref21_Marks⟩) (he_ref01_Equal : SigOk Go.Proofs.Try.prog 19 ⟨[.sl (.int .u8), .sl (.int .u8)], [.bool], g_ref01_Equal⟩) (he_msg_Check : SigOk Go.Proofs.Try.prog 25 ⟨[.cat [.int .i64, .int .i64, .int .i64, .int .u32, .int .u32, .int .u64, .int .u64, .int .i64, .int .i64, .sl (.int .u8), .sl (.int .u8), .sl (.int .u8)]], [.int .i64], g_msg_Check⟩) (he_msg_Missing : SigOk Go.Proofs.Try.prog 22 ⟨[.cat [.int .i64, .int .i64, .int .i64, .int .u32, .int .u32, .int .u64, .int .u64, .int .i64, .int .i64, .sl (.int .u8), .sl (.int .u8), .sl (.int .u8)]], [.int .i64], g_msg_Missing⟩) : p_law21_MsgMarks_E.Ok Go.Proofs.Try.prog := AE.ofQ_ok (all_cons ty3_ok (all_cons ty4_ok (all_cons ty25_ok (all_cons ty28_ok (all_cons ty29_ok (all_cons ty31_ok (all_cons ty43_ok all_nil))))))) (all_cons ⟨he_law21_live, enters_law21_live⟩ (all_cons ⟨he_msg_Marks, enters_msg_Marks⟩ (all_cons ⟨he_ref21_Marks, enters_ref21_Marks⟩ (all_cons ⟨he_ref01_Equal, enters_ref01_Equal⟩ (all_cons ⟨he_msg_Check, enters_msg_Check⟩ (all_cons ⟨he_msg_Missing, enters_msg_Missing⟩ all_nil)))))) (all_cons steq28_ok all_nil)
theorem p_law21_MsgMarks_ok (he_law21_live : SigOk Go.Proofs.Try.prog 11 ⟨[], [.bool], g_law21_live⟩) (he_msg_Marks : SigOk Go.Proofs.Try.prog 29 ⟨[.sl .bool], [.sl (.int .u8)], g_msg_Marks⟩) (he_ref21_Marks : SigOk Go.Proofs.Try.prog 30 ⟨[.sl .bool], [.sl (.int .u8)], g_ref21_Marks⟩) (he_ref01_Equal : SigOk Go.Proofs.Try.prog 19 ⟨[.sl (.int .u8), .sl (.int .u8)], [.bool], g_ref01_Equal⟩) (he_msg_Check : SigOk Go.Proofs.Try.prog 25 ⟨[.cat [.int .i64, .int .i64, .int .i64, .int .u32, .int .u32, .int .u64, .int .u64, .int .i64, .int .i64, .sl (.int .u8), .sl (.int .u8), .sl (.int .u8)]], [.int .i64], g_msg_Check⟩) (he_msg_Missing : SigOk Go.Proofs.Try.prog 22 ⟨[.cat [.int .i64, .int .i64, .int .i64, .int .u32, .int .u32, .int .u64, .int .u64, .int .i64, .int .i64, .sl (.int .u8), .sl (.int .u8), .sl (.int .u8)]], [.int .i64], g_msg_Missing⟩) {g : Ds [.sl .bool, .int .i64, .int .i64] → Option (Rs [.bool])} (hg : ∀ x r, g x = some r → ∃ N, p_law21_MsgMarks N x = some r) : SigOk Go.Proofs.Try.prog 6 ⟨[.sl .bool, .int .i64, .int .i64], [.bool], g⟩ :=
  fun_of (E := p_law21_MsgMarks_E) (H := p_law21_MsgMarks_H) (L := fun N => p_law21_MsgMarks_l10_L N) (c := p_law21_MsgMarks_c) (ks := p_law21_MsgMarks_ks) (rs := p_law21_MsgMarks_rs) (F := p_law21_MsgMarks) (p_law21_MsgMarks_Eok he_law21_live he_msg_Marks he_ref21_Marks he_ref01_Equal he_msg_Check he_msg_Missing) mix Go.Proofs.Try.func6 (by kernel_rfl) (fun N => p_law21_MsgMarks_l10_ok N) p_law21_MsgMarks_eq hg

/-! livery/liverylaw21.MsgWords -/
noncomputable def p_law21_MsgWords_E : AE := AE.ofQ [(4, ty4), (29, ty29), (31, ty31)] [(11, ⟨[], [.bool], g_law21_live⟩), (16, ⟨[.cat [.int .i64, .int .i64, .int .i64, .int .u32, .int .u32, .int .u64, .int .u64, .int .i64, .int .i64, .sl (.int .u8), .sl (.int .u8), .sl (.int .u8)]], [.bool], g_law21_big⟩), (20, ⟨[.cat [.int .i64, .int .i64, .int .i64, .int .u32, .int .u32, .int .u64, .int .u64, .int .i64, .int .i64, .sl (.int .u8), .sl (.int .u8), .sl (.int .u8)]], [.sl (.int .u8)], g_msg_Words⟩), (25, ⟨[.cat [.int .i64, .int .i64, .int .i64, .int .u32, .int .u32, .int .u64, .int .u64, .int .i64, .int .i64, .sl (.int .u8), .sl (.int .u8), .sl (.int .u8)]], [.int .i64], g_msg_Check⟩), (24, ⟨[.cat [.int .i64, .int .i64, .int .i64, .int .u32, .int .u32, .int .u64, .int .u64, .int .i64, .int .i64, .sl (.int .u8), .sl (.int .u8), .sl (.int .u8)]], [.cat [.int .i64, .int .i64, .int .i64, .int .u32, .int .u32, .int .u64, .int .u64, .int .i64, .int .i64, .sl (.int .u8), .sl (.int .u8), .sl (.int .u8)]], g_msg_Clone⟩), (19, ⟨[.sl (.int .u8), .sl (.int .u8)], [.bool], g_ref01_Equal⟩), (27, ⟨[.cat [.int .i64, .int .i64, .int .i64, .int .u32, .int .u32, .int .u64, .int .u64, .int .i64, .int .i64, .sl (.int .u8), .sl (.int .u8), .sl (.int .u8)], .cat [.int .i64, .int .i64, .int .i64, .int .u32, .int .u32, .int .u64, .int .u64, .int .i64, .int .i64, .sl (.int .u8), .sl (.int .u8), .sl (.int .u8)]], [.bool], g_msg_Same⟩)] [(28, .u64, 2)]
noncomputable def p_law21_MsgWords_H : Hints := [(3000000, [4])]
noncomputable def p_law21_MsgWords_c : Code := (Go.Proofs.Try.f7).body.getD .skip
abbrev p_law21_MsgWords_ks : List Kd := [.cat [.int .i64, .int .i64, .int .i64, .int .u32, .int .u32, .int .u64, .int .u64, .int .i64, .int .i64, .sl (.int .u8), .sl (.int .u8), .sl (.int .u8)], .cat [.int .i64, .int .i64, .int .i64, .int .u32, .int .u32, .int .u64, .int .u64, .int .i64, .int .i64, .sl (.int .u8), .sl (.int .u8), .sl (.int .u8)]]
abbrev p_law21_MsgWords_rs : List Kd := [.bool]
noncomputable def p_law21_MsgWords (N : Nat) (x : (Int × Int × Int × Int × Int × Int × Int × Int × Int × List Int × List Int × List Int × Unit) × (Int × Int × Int × Int × Int × Int × Int × Int × Int × List Int × List Int × List Int × Unit) × Unit) : Option (Bool) :=
  (g_law21_live (())).bind fun r1 => (
  if (¬ (r1 = true)) then
    (g_law21_live (())).bind fun r2 => (
    some (decide (r2 = true)))
  else
    (g_law21_big ((x.1.1, x.1.2.1, x.1.2.2.1, x.1.2.2.2.1, x.1.2.2.2.2.1, x.1.2.2.2.2.2.1, x.1.2.2.2.2.2.2.1, x.1.2.2.2.2.2.2.2.1, x.1.2.2.2.2.2.2.2.2.1, x.1.2.2.2.2.2.2.2.2.2.1, x.1.2.2.2.2.2.2.2.2.2.2.1, x.1.2.2.2.2.2.2.2.2.2.2.2.1, ()), ())).bind fun r3 => (
    if (r3 = true) then
      (g_law21_live (())).bind fun r4 => (
      some (decide (r4 = true)))
    else
      (g_law21_big ((x.2.1.1, x.2.1.2.1, x.2.1.2.2.1, x.2.1.2.2.2.1, x.2.1.2.2.2.2.1, x.2.1.2.2.2.2.2.1, x.2.1.2.2.2.2.2.2.1, x.2.1.2.2.2.2.2.2.2.1, x.2.1.2.2.2.2.2.2.2.2.1, x.2.1.2.2.2.2.2.2.2.2.2.1, x.2.1.2.2.2.2.2.2.2.2.2.2.1, x.2.1.2.2.2.2.2.2.2.2.2.2.2.1, ()), ())).bind fun r5 => (
      if (r5 = true) then
        (g_law21_live (())).bind fun r6 => (
        some (decide (r6 = true)))
      else
        (g_msg_Words ((x.1.1, x.1.2.1, x.1.2.2.1, x.1.2.2.2.1, x.1.2.2.2.2.1, x.1.2.2.2.2.2.1, x.1.2.2.2.2.2.2.1, x.1.2.2.2.2.2.2.2.1, x.1.2.2.2.2.2.2.2.2.1, x.1.2.2.2.2.2.2.2.2.2.1, x.1.2.2.2.2.2.2.2.2.2.2.1, x.1.2.2.2.2.2.2.2.2.2.2.2.1, ()), ())).bind fun r7 => (
        (g_msg_Words ((x.2.1.1, x.2.1.2.1, x.2.1.2.2.1, x.2.1.2.2.2.1, x.2.1.2.2.2.2.1, x.2.1.2.2.2.2.2.1, x.2.1.2.2.2.2.2.2.1, x.2.1.2.2.2.2.2.2.2.1, x.2.1.2.2.2.2.2.2.2.2.1, x.2.1.2.2.2.2.2.2.2.2.2.1, x.2.1.2.2.2.2.2.2.2.2.2.2.1, x.2.1.2.2.2.2.2.2.2.2.2.2.2.1, ()), ())).bind fun r8 => (
        (g_msg_Check ((x.1.1, x.1.2.1, x.1.2.2.1, x.1.2.2.2.1, x.1.2.2.2.2.1, x.1.2.2.2.2.2.1, x.1.2.2.2.2.2.2.1, x.1.2.2.2.2.2.2.2.1, x.1.2.2.2.2.2.2.2.2.1, x.1.2.2.2.2.2.2.2.2.2.1, x.1.2.2.2.2.2.2.2.2.2.2.1, x.1.2.2.2.2.2.2.2.2.2.2.2.1, ()), ())).bind fun r9 => (
        if (r9 ≠ (0:Int)) then
          if ((((List.length r7) : Nat) : Int) = (0:Int)) then
            some true
          else
            some (decide ((((List.length r8) : Nat) : Int) = (0:Int)))
        else
          (g_msg_Check ((x.2.1.1, x.2.1.2.1, x.2.1.2.2.1, x.2.1.2.2.2.1, x.2.1.2.2.2.2.1, x.2.1.2.2.2.2.2.1, x.2.1.2.2.2.2.2.2.1, x.2.1.2.2.2.2.2.2.2.1, x.2.1.2.2.2.2.2.2.2.2.1, x.2.1.2.2.2.2.2.2.2.2.2.1, x.2.1.2.2.2.2.2.2.2.2.2.2.1, x.2.1.2.2.2.2.2.2.2.2.2.2.2.1, ()), ())).bind fun r10 => (
          if (r10 ≠ (0:Int)) then
            if ((((List.length r7) : Nat) : Int) = (0:Int)) then
              some true
            else
              some (decide ((((List.length r8) : Nat) : Int) = (0:Int)))
          else
            if (((List.length x.1.2.2.2.2.2.2.2.2.2.2.2.1 : Nat) : Int) = (0:Int)) then
              if ((((List.length r7) : Nat) : Int) = (0:Int)) then
                some true
              else
                some (decide ((((List.length r8) : Nat) : Int) = (0:Int)))
            else
              if (((List.length x.2.1.2.2.2.2.2.2.2.2.2.2.2.1 : Nat) : Int) = (0:Int)) then
                if ((((List.length r7) : Nat) : Int) = (0:Int)) then
                  some true
                else
                  some (decide ((((List.length r8) : Nat) : Int) = (0:Int)))
              else
                (g_msg_Clone ((x.2.1.1, x.2.1.2.1, x.2.1.2.2.1, x.2.1.2.2.2.1, x.2.1.2.2.2.2.1, x.2.1.2.2.2.2.2.1, x.2.1.2.2.2.2.2.2.1, x.2.1.2.2.2.2.2.2.2.1, x.2.1.2.2.2.2.2.2.2.2.1, x.2.1.2.2.2.2.2.2.2.2.2.1, x.2.1.2.2.2.2.2.2.2.2.2.2.1, x.2.1.2.2.2.2.2.2.2.2.2.2.2.1, ()), ())).bind fun r11 => (
                (g_ref01_Equal (r7, r8, ())).bind fun r12 => (
                (g_msg_Same ((x.1.1, x.1.2.1, x.1.2.2.1, x.1.2.2.2.1, x.1.2.2.2.2.1, x.1.2.2.2.2.2.1, x.1.2.2.2.2.2.2.1, x.1.2.2.2.2.2.2.2.1, x.1.2.2.2.2.2.2.2.2.1, x.1.2.2.2.2.2.2.2.2.2.1, x.1.2.2.2.2.2.2.2.2.2.2.1, x.1.2.2.2.2.2.2.2.2.2.2.2.1, ()), (r11.1, r11.2.1, r11.2.2.1, r11.2.2.2.1, r11.2.2.2.2.1, r11.2.2.2.2.2.1, r11.2.2.2.2.2.2.1, r11.2.2.2.2.2.2.2.1, r11.2.2.2.2.2.2.2.2.1, r11.2.2.2.2.2.2.2.2.2.1, r11.2.2.2.2.2.2.2.2.2.2.1, x.1.2.2.2.2.2.2.2.2.2.2.2.1, ()), ())).bind fun r13 => (
                if ((decide (r12 = true)) = (decide (r13 = true))) then
                  some (decide ((((List.length r7) : Nat) : Int) > (0:Int)))
                else
                  some false))))))))))
theorem p_law21_MsgWords_eq (N : Nat) (x : Ds [.cat [.int .i64, .int .i64, .int .i64, .int .u32, .int .u32, .int .u64, .int .u64, .int .i64, .int .i64, .sl (.int .u8), .sl (.int .u8), .sl (.int .u8)], .cat [.int .i64, .int .i64, .int .i64, .int .u32, .int .u32, .int .u64, .int .u64, .int .i64, .int .i64, .sl (.int .u8), .sl (.int .u8), .sl (.int .u8)]]) : funL p_law21_MsgWords_E p_law21_MsgWords_H (LT.nil) N Go.Proofs.Try.f7 p_law21_MsgWords_c [.cat [.int .i64, .int .i64, .int .i64, .int .u32, .int .u32, .int .u64, .int .u64, .int .i64, .int .i64, .sl (.int .u8), .sl (.int .u8), .sl (.int .u8)], .cat [.int .i64, .int .i64, .int .i64, .int .u32, .int .u32, .int .u64, .int .u64, .int .i64, .int .i64, .sl (.int .u8), .sl (.int .u8), .sl (.int .u8)]] [.bool] x = p_law21_MsgWords N x := by kernel_rfl
theorem p_law21_MsgWords_Eok (he_law21_live : SigOk Go.Proofs.Try.prog 11 ⟨[], [.bool], g_law21_live⟩) (he_law21_big : SigOk Go.Proofs.Try.prog 16 ⟨[.cat [.int .i64, .int .i64, .int .i64, .int .u32, .int .u32, .int .u64, .int .u64, .int .i64, .int .i64, .sl (.int .u8), .sl (.int .u8), .sl (.int .u8)]], [.bool], g_law21_big⟩) (he_msg_Words : SigOk Go.Proofs.Try.prog 20 ⟨[.cat [.int .i64, .int .i64, .int .i64, .int .u32, .int .u32, .int .u64, .int .u64, .int .i64, .int .i64, .sl (.int .u8), .sl (.int .u8), .sl (.int .u8)]], [.sl (.int .u8)], g_msg_Words⟩) (he_msg_Check : SigOk Go.Proofs.Try.prog 25 ⟨[.cat [.int .i64, .int .i64, .int .i64, .int .u32, .int .u32, .int .u64, .int .u64, .int .i64, .int .i64, .sl (.int .u8), .sl (.int .u8), .sl (.int .u8)]], [.int .i64], g_msg_Check⟩) (he_msg_Clone : SigOk Go.Proofs.Try.prog 24 ⟨[.cat [.int .i64, .int .i64, .int .i64, .int .u32, .int .u32, .int .u64, .int .u64, .int .i64, .int .i64, .sl (.int .u8), .sl (.int .u8), .sl (.int .u8)]], [.cat [.int .i64, .int .i64, .int .i64, .int .u32, .int .u32, .int .u64, .int .u64, .int .i64, .int .i64, .sl (.int .u8), .sl (.int .u8), .sl (.int .u8)]], g_msg_Clone⟩) (he_ref01_Equal : SigOk Go.Proofs.Try.prog 19 ⟨[.sl (.int .u8), .sl (.int .u8)], [.bool], g_ref01_Equal⟩) (he_msg_Same : SigOk Go.Proofs.Try.prog 27 ⟨[.cat [.int .i64, .int .i64, .int .i64, .int .u32, .int .u32, .int .u64, .int .u64, .int .i64, .int .i64, .sl (.int .u8), .sl (.int .u8), .sl (.int .u8)], .cat [.int .i64, .int .i64, .int .i64, .int .u32, .int .u32, .int .u64, .int .u64, .int .i64, .int .i64, .sl (.int .u8), .sl (.int .u8), .sl (.int .u8)]], [.bool], g_msg_Same⟩) : p_law21_MsgWords_E.Ok Go.Proofs.Try.prog := AE.ofQ_ok (all_cons ty4_ok (all_cons ty29_ok (all_cons ty31_ok all_nil))) (all_cons ⟨he_law21_live, enters_law21_live⟩ (all_cons ⟨he_law21_big, enters_law21_big⟩ (all_cons ⟨he_msg_Words, enters_msg_Words⟩ (all_cons ⟨he_msg_Check, enters_msg_Check⟩ (all_cons ⟨he_msg_Clone, enters_msg_Clone⟩ (all_cons ⟨he_ref01_Equal, enters_ref01_Equal⟩ (all_cons ⟨he_msg_Same, enters_msg_Same⟩ all_nil))))))) (all_cons steq28_ok all_nil)
theorem p_law21_MsgWords_ok (he_law21_live : SigOk Go.Proofs.Try.prog 11 ⟨[], [.bool], g_law21_live⟩) (he_law21_big : SigOk Go.Proofs.Try.prog 16 ⟨[.cat [.int .i64, .int .i64, .int .i64, .int .u32, .int .u32, .int .u64, .int .u64, .int .i64, .int .i64, .sl (.int .u8), .sl (.int .u8), .sl (.int .u8)]], [.bool], g_law21_big⟩) (he_msg_Words : SigOk Go.Proofs.Try.prog 20 ⟨[.cat [.int .i64, .int .i64, .int .i64, .int .u32, .int .u32, .int .u64, .int .u64, .int .i64, .int .i64, .sl (.int .u8), .sl (.int .u8), .sl (.int .u8)]], [.sl (.int .u8)], g_msg_Words⟩) (he_msg_Check : SigOk Go.Proofs.Try.prog 25 ⟨[.cat [.int .i64, .int .i64, .int .i64, .int .u32, .int .u32, .int .u64, .int .u64, .int .i64, .int .i64, .sl (.int .u8), .sl (.int .u8), .sl (.int .u8)]], [.int .i64], g_msg_Check⟩) (he_msg_Clone : SigOk Go.Proofs.Try.prog 24 ⟨[.cat [.int .i64, .int .i64, .int .i64, .int .u32, .int .u32, .int .u64, .int .u64, .int .i64, .int .i64, .sl (.int .u8), .sl (.int .u8), .sl (.int .u8)]], [.cat [.int .i64, .int .i64, .int .i64, .int .u32, .int .u32, .int .u64, .int .u64, .int .i64, .int .i64, .sl (.int .u8), .sl (.int .u8), .sl (.int .u8)]], g_msg_Clone⟩) (he_ref01_Equal : SigOk Go.Proofs.Try.prog 19 ⟨[.sl (.int .u8), .sl (.int .u8)], [.bool], g_ref01_Equal⟩) (he_msg_Same : SigOk Go.Proofs.Try.prog 27 ⟨[.cat [.int .i64, .int .i64, .int .i64, .int .u32, .int .u32, .int .u64, .int .u64, .int .i64, .int .i64, .sl (.int .u8), .sl (.int .u8), .sl (.int .u8)], .cat [.int .i64, .int .i64, .int .i64, .int .u32, .int .u32, .int .u64, .int .u64, .int .i64, .int .i64, .sl (.int .u8), .sl (.int .u8), .sl (.int .u8)]], [.bool], g_msg_Same⟩) {g : Ds [.cat [.int .i64, .int .i64, .int .i64, .int .u32, .int .u32, .int .u64, .int .u64, .int .i64, .int .i64, .sl (.int .u8), .sl (.int .u8), .sl (.int .u8)], .cat [.int .i64, .int .i64, .int .i64, .int .u32, .int .u32, .int .u64, .int .u64, .int .i64, .int .i64, .sl (.int .u8), .sl (.int .u8), .sl (.int .u8)]] → Option (Rs [.bool])} (hg : ∀ x r, g x = some r → ∃ N, p_law21_MsgWords N x = some r) : SigOk Go.Proofs.Try.prog 7 ⟨[.cat [.int .i64, .int .i64, .int .i64, .int .u32, .int .u32, .int .u64, .int .u64, .int .i64, .int .i64, .sl (.int .u8), .sl (.int .u8), .sl (.int .u8)], .cat [.int .i64, .int .i64, .int .i64, .int .u32, .int .u32, .int .u64, .int .u64, .int .i64, .int .i64, .sl (.int .u8), .sl (.int .u8), .sl (.int .u8)]], [.bool], g⟩ :=
  fun_of (E := p_law21_MsgWords_E) (H := p_law21_MsgWords_H) (L := fun N => LT.nil) (c := p_law21_MsgWords_c) (ks := p_law21_MsgWords_ks) (rs := p_law21_MsgWords_rs) (F := p_law21_MsgWords) (p_law21_MsgWords_Eok he_law21_live he_law21_big he_msg_Words he_msg_Check he_msg_Clone he_ref01_Equal he_msg_Same) mix Go.Proofs.Try.func7 (by kernel_rfl) (fun N => OkAll.nil) p_law21_MsgWords_eq hg
end Go.Ax.TryP
/-! ### Marks, what is missing, which are the same -/
set_option linter.unusedVariables false
set_option linter.unusedSimpArgs false
namespace Go.Ax.TryP
theorem xor_zero {a b : Int} (ha : 0 ≤ a ∧ a ≤ 255) (hb : 0 ≤ b ∧ b ≤ 255) {x : Int} (hx : 0 ≤ x ∧ x ≤ 255) :
    (0 ≤ ior .u8 x (ixor .u8 a b) ∧ ior .u8 x (ixor .u8 a b) ≤ 255) ∧ (ior .u8 x (ixor .u8 a b) = 0 ↔ x = 0 ∧ a = b) := by
  obtain ⟨a, rfl⟩ : ∃ m : Nat, a = m := ⟨a.toNat, by omega⟩
  obtain ⟨b, rfl⟩ : ∃ m : Nat, b = m := ⟨b.toNat, by omega⟩
  obtain ⟨x, rfl⟩ : ∃ m : Nat, x = m := ⟨x.toNat, by omega⟩
  have ha' : a < 2 ^ 8 := by omega
  have hb' : b < 2 ^ 8 := by omega
  have hx' : x < 2 ^ 8 := by omega
  have h1 : a ^^^ b < 2 ^ 8 := Nat.xor_lt_two_pow ha' hb'
  have h2 : x ||| (a ^^^ b) < 2 ^ 8 := Nat.or_lt_two_pow hx' h1
  rw [ixor_nat (k := .u8) rfl ha' hb', ior_nat (k := .u8) rfl hx' h1]
  refine ⟨by omega, ?_⟩
  constructor
  · intro h
    have h : x ||| (a ^^^ b) = 0 := by omega
    have hz : ∀ i, (x ||| (a ^^^ b)).testBit i = false := fun i => by rw [h]; exact Nat.zero_testBit i
    have hx0 : x = 0 := Nat.eq_of_testBit_eq fun i => by
      have := hz i
      rw [Nat.testBit_or, Bool.or_eq_false_iff] at this
      rw [this.1]; simp
    have hab : a = b := Nat.eq_of_testBit_eq fun i => by
      have := hz i
      rw [Nat.testBit_or, Bool.or_eq_false_iff, Nat.testBit_xor] at this
      have := this.2
      cases h1 : a.testBit i <;> cases h2 : b.testBit i <;> simp_all
    rw [hx0, hab]; simp
  · rintro ⟨k1, k2⟩
    have k1 : x = 0 := by omega
    have k2 : a = b := by omega
    rw [k1, k2]
    simp
def accS (a b : List Int) : Nat → Int
  | 0 => 0
  | i + 1 => ior .u8 (accS a b i) (ixor .u8 (a.getD i 0) (b.getD i 0))
theorem accS_spec {a b : List Int} (ha : bytes a) (hb : bytes b) (hl : a.length = b.length) : ∀ i, i ≤ a.length → (0 ≤ accS a b i ∧ accS a b i ≤ 255) ∧ (accS a b i = 0 ↔ a.take i = b.take i)
  | 0, _ => by simp [accS]
  | i + 1, hi => by
    obtain ⟨h1, h2⟩ := accS_spec ha hb hl i (by omega)
    obtain ⟨g1, g2⟩ := xor_zero (byte_at ha i) (byte_at hb i) h1
    refine ⟨g1, g2.trans ?_⟩
    rw [h2, List.take_succ_eq_append_getElem (show i < a.length by omega), List.take_succ_eq_append_getElem (show i < b.length by omega)]
    have e : List.take i a ++ [a[i]] = List.take i b ++ [b[i]] ↔ List.take i a = List.take i b ∧ a[i] = b[i] :=
      ⟨fun h => by obtain ⟨p, q⟩ := List.append_inj h (by simp; omega); exact ⟨p, by simpa using q⟩, fun h => by rw [h.1, h.2]⟩
    rw [e]
    simp [List.getD_eq_getElem?_getD, List.getElem?_eq_getElem (show i < a.length by omega), List.getElem?_eq_getElem (show i < b.length by omega)]
theorem q_octet_Same : ∀ x r, g_octet_Same x = some r → ∃ N, p_octet_Same N x = some r := by
  refine Spec_of (ks := p_octet_Same_ks) (rs := p_octet_Same_rs) fun x hw hq => ?_
  obtain ⟨(a : List Int), (b : List Int), u⟩ := x
  obtain ⟨ha1, ha2⟩ : a.length ≤ maxLen ∧ bytes a := wf_b1.1 hw.1
  obtain ⟨hb1, hb2⟩ : b.length ≤ maxLen ∧ bytes b := wf_b1.1 hw.2.1
  have hM : maxLen = 9223372036854775807 := by decide
  refine ⟨a.length + 1, ?_⟩
  unfold p_octet_Same
  dsimp only
  by_cases hl : a.length = b.length
  · rw [if_neg (by omega)]
    refine (iter_from (F := p_octet_Same_l5_F (a.length + 1)) (s := fun i => (a.length, b.length, accS a b i, (a.length : Int), (i : Int), a.length, a, b.length, b, ())) (y := (accS a b a.length, ())) a.length rfl ?_ ?_ (a.length + 1) (by omega)).trans ?_
    · intro i hi kn
      unfold p_octet_Same_l5_F
      dsimp only
      rw [if_pos (by omega), if_pos (by omega), if_pos (by omega), Int.toNat_natCast, if_pos (by omega), if_pos (by omega), if_pos (by omega), if_pos (by omega), wrap_i64 (by omega) (by omega)]
      rfl
    · intro kn
      unfold p_octet_Same_l5_F
      dsimp only
      rw [if_neg (by omega)]
    · dsimp only
      refine congrArg some (decide_eq_decide.2 ?_)
      rw [(accS_spec ha2 hb2 hl a.length (Nat.le_refl _)).2, List.take_length, hl, List.take_length]
  · rw [if_pos (by omega)]
    exact congrArg some (decide_eq_false (fun h => hl (by rw [show a = b from h]))).symm
theorem at_Same {a b : List Int} (ha : a.length ≤ maxLen ∧ bytes a) (hb : b.length ≤ maxLen ∧ bytes b) : g_octet_Same (a, b, ()) = some (decide (a = b)) :=
  Spec_at (ks := p_octet_Same_ks) (rs := p_octet_Same_rs) (x := (a, b, ())) ⟨wf_b1.2 ha, wf_b1.2 hb, trivial⟩ trivial
theorem at_Equal2 {a b : List Int} (ha : a.length ≤ maxLen ∧ bytes a) (hb : b.length ≤ maxLen ∧ bytes b) : g_ref01_Equal (a, b, ()) = some (decide (a = b)) :=
  Spec_at (ks := p_ref01_Equal_ks) (rs := p_ref01_Equal_rs) (x := (a, b, ())) ⟨wf_b1.2 ha, wf_b1.2 hb, trivial⟩ trivial
theorem bool_at {l : List Int} (h : ∀ z ∈ l, z = 0 ∨ z = 1) (i : Nat) : l.getD i 0 = 0 ∨ l.getD i 0 = 1 := by
  by_cases hi : i < l.length
  · exact h _ (getD_mem hi)
  · rw [getD_out (by omega)]; exact .inl rfl
theorem wf_bl {l : List Int} (h1 : l.length ≤ maxLen) (h2 : ∀ z ∈ l, z = 0 ∨ z = 1) : Kd.wf (.sl .bool) l := ⟨h1, h2⟩
theorem q_ref01_FromBits : ∀ x r, g_ref01_FromBits x = some r → ∃ N, p_ref01_FromBits N x = some r := by
  refine Spec_of (ks := p_ref01_FromBits_ks) (rs := p_ref01_FromBits_rs) fun x hw hq => ⟨x.1.length + 20, ?_⟩
  obtain ⟨(l : List Int), u⟩ := x
  have hq : l.length ≤ 1000000 := hq
  obtain ⟨⟨_, hl⟩, _⟩ := hw
  have hl : ∀ z ∈ l, z = 0 ∨ z = 1 := hl
  unfold p_ref01_FromBits
  refine (iter_run (s := fun i => (l.length, i, ((8 * i : Nat) : Int), l.length, l, i, fBytes (fun t => l.getD t 0) i, ())) (y := ((l.length + 7) / 8, (l.length + 7) / 8, fBytes (fun t => l.getD t 0) ((l.length + 7) / 8), ())) ((l.length + 7) / 8) ?_ ?_ _ (by simp only; omega)).trans ?_
  · intro i hi kn
    have g1 : ((8 * i : Nat) : Int) < (l.length : Int) := by omega
    unfold p_ref01_FromBits_l3_F
    simp only [g1, if_true]
    have hfin : ∀ r, r ≤ 8 → (r = 8 ∨ l.length ≤ 8 * i + r) → sumB r (fun s => l.getD (8 * i + s) 0) = sumB 8 fun s => l.getD (8 * i + s) 0 := by
      intro r hr h
      rw [← sumB_cut (c := fun s => l.getD (8 * i + s) 0) hr]
      refine sumB_congr fun s hs => ?_
      by_cases h2 : s < r
      · rw [if_pos h2]
      · rw [if_neg h2, getD_out (by omega)]
    have hm : min 8 (l.length - 8 * i) ≤ 8 := Nat.min_le_left _ _
    refine (iter_run (s := fun r => (l.length, i, ((8 * i : Nat) : Int), sumB r (fun s => l.getD (8 * i + s) 0), (2 : Int) ^ r, ((8 * i + r : Nat) : Int), l.length, l, i, fBytes (fun t => l.getD t 0) i, ()))
      (y := (l.length, i, ((8 * i : Nat) : Int), sumB 8 (fun s => l.getD (8 * i + s) 0), l.length, l, i, fBytes (fun t => l.getD t 0) i, ())) (min 8 (l.length - 8 * i)) ?_ ?_ (l.length + 20) (by omega)).trans ?_
    · intro r hr kn
      have hr8 : r < 8 := by omega
      have hrl : 8 * i + r < l.length := by omega
      have g2 : ((8 * i + r : Nat) : Int) < (l.length : Int) := by omega
      have g3 : (0 : Int) ≤ ((8 * i + r : Nat) : Int) := by omega
      have hb := sumB_b (n := r) (c := fun s => l.getD (8 * i + s) 0) fun s _ => by rcases bool_at hl (8 * i + s) with h | h <;> omega
      have hp : (0 : Int) < 2 ^ r := pow2_pos r
      have hp8 : (2 : Int) ^ r ≤ 128 := (by decide : ∀ r, r < 8 → (2 : Int) ^ r ≤ 128) r hr8
      unfold p_ref01_FromBits_l7_F
      simp (disch := omega) only [wrap_i64]
      rw [if_pos (by omega), if_pos g2, if_pos g3, if_pos g2, if_pos (by rw [Int.toNat_natCast]; exact hrl), Int.toNat_natCast]
      have ek : (2 : Int) ^ r * 2 = 2 ^ (r + 1) := (Int.pow_succ 2 r).symm
      rcases bool_at hl (8 * i + r) with h | h
      · rw [if_neg (by omega), ek]
        have : sumB (r + 1) (fun s => l.getD (8 * i + s) 0) = sumB r fun s => l.getD (8 * i + s) 0 := by
          simp only [sumB]; rw [h]; omega
        rw [this, show ((8 * i + r : Nat) : Int) + 1 = ((8 * i + (r + 1) : Nat) : Int) by omega]
      · rw [if_pos (by omega), ek]
        have : sumB (r + 1) (fun s => l.getD (8 * i + s) 0) = sumB r (fun s => l.getD (8 * i + s) 0) + 2 ^ r := by
          simp only [sumB]; rw [h]; omega
        rw [this, show ((8 * i + r : Nat) : Int) + 1 = ((8 * i + (r + 1) : Nat) : Int) by omega]
    · intro kn
      have hf := hfin (min 8 (l.length - 8 * i)) hm (by omega)
      unfold p_ref01_FromBits_l7_F
      simp (disch := omega) only [wrap_i64]
      by_cases h8 : min 8 (l.length - 8 * i) = 8
      · rw [if_neg (by omega), hf]
      · rw [if_pos (by omega), if_neg (by omega), hf]
    · have hb := sumB_b (n := 8) (c := fun s => l.getD (8 * i + s) 0) fun s _ => by rcases bool_at hl (8 * i + s) with h | h <;> omega
      have e8 : (2 : Int) ^ 8 = 256 := rfl
      simp (disch := omega) only [if_pos, wrap_i64, wrap_u8, one_set]
      unfold fBytes
      rw [map_range_succ (fun j => sumB 8 fun s => l.getD (8 * j + s) 0), show ((8 * i : Nat) : Int) + 8 = ((8 * (i + 1) : Nat) : Int) by omega]
  · intro kn
    unfold p_ref01_FromBits_l3_F
    simp (disch := omega) only [if_neg]
  · rfl

theorem q_octet_FromBits : ∀ x r, g_octet_FromBits x = some r → ∃ N, p_octet_FromBits N x = some r := by
  refine Spec_of (ks := p_octet_FromBits_ks) (rs := p_octet_FromBits_rs) fun x hw hq => ⟨x.1.length + 1, ?_⟩
  obtain ⟨(l : List Int), u⟩ := x
  have hq : l.length ≤ 1000000 := hq
  obtain ⟨⟨_, hl⟩, _⟩ := hw
  have hl : ∀ z ∈ l, z = 0 ∨ z = 1 := hl
  have he : ∀ t, t < 8 * ((l.length + 7) / 8) → 0 ≤ l.getD t 0 ∧ l.getD t 0 ≤ 1 := fun t _ => by rcases bool_at hl t with h | h <;> omega
  have e0 : IntKind.i64.wrap (Int.tdiv (IntKind.i64.wrap ((l.length : Int) + 7)) 8) = (((l.length + 7) / 8 : Nat) : Int) := by
    rw [wrap_i64 (x := (l.length : Int) + 7) (by omega) (by omega), tdiv_pos (by omega), wrap_i64 (by omega) (by omega)]
    omega
  unfold p_octet_FromBits
  dsimp only
  rw [e0, if_pos (by omega), if_pos rfl, if_pos (by omega), Int.toNat_natCast]
  generalize hn : (l.length + 7) / 8 = n at he
  refine (iter_from (F := p_octet_FromBits_l3_F (l.length + 1)) (s := fun i => (n, l.length, (l.length : Int), (i : Int), n, fBytes (upTo (fun t => l.getD t 0) i) n, l.length, l, ())) (y := (n, n, fBytes (fun t => l.getD t 0) n, ())) l.length ?_ ?_ ?_ (l.length + 1) (by omega)).trans ?_
  · rw [fBytes_zero]; rfl
  · intro i hi kn
    have e1 : IntKind.i64.wrap (Int.tdiv (i : Int) 8) = ((i / 8 : Nat) : Int) := by rw [tdiv_pos (by omega), wrap_i64 (by omega) (by omega)]; omega
    have e2 : Int.tmod (i : Int) 8 = ((i % 8 : Nat) : Int) := by rw [tmod_pos (by omega)]; omega
    unfold p_octet_FromBits_l3_F
    dsimp only
    rw [if_pos (by omega), if_pos (by omega), if_pos (by omega), Int.toNat_natCast, if_pos hi, e1, e2, Int.toNat_natCast, wrap_i64 (by omega) (by omega)]
    rcases bool_at hl i with h | h
    · rw [if_neg (by omega)]
      have : upTo (fun t => l.getD t 0) (i + 1) = upTo (fun t => l.getD t 0) i := by
        funext u
        unfold upTo
        by_cases h2 : u < i
        · rw [if_pos h2, if_pos (by omega)]
        · rw [if_neg h2]
          by_cases h3 : u < i + 1
          · rw [if_pos h3, show u = i by omega]; exact h
          · rw [if_neg h3]
      rw [this]
      rfl
    · have hs := fBytes_step (e := fun t => l.getD t 0) (n := n) (t := i) he (by omega)
      rw [if_pos (by omega), if_pos (by omega), if_pos (by omega), if_pos (by omega), if_neg (by omega), if_pos (by omega), if_pos (by omega), if_pos (by omega)]
      rw [← hs]
      simp only [h]
      rfl
  · intro kn
    have : upTo (fun t => l.getD t 0) l.length = fun t => l.getD t 0 := by
      funext u
      unfold upTo
      by_cases h2 : u < l.length
      · rw [if_pos h2]
      · rw [if_neg h2, getD_out (by omega)]
    unfold p_octet_FromBits_l3_F
    dsimp only
    rw [if_neg (by omega), this]
  · subst hn
    rfl
theorem at_FromBits {l : List Int} (h : l.length ≤ 1000000) (hl : ∀ z ∈ l, z = 0 ∨ z = 1) : g_octet_FromBits (l, ()) = some (fBytes (fun t => l.getD t 0) ((l.length + 7) / 8)) :=
  Spec_at (ks := p_octet_FromBits_ks) (rs := p_octet_FromBits_rs) (x := (l, ())) ⟨⟨Nat.le_trans h (by decide), hl⟩, trivial⟩ h
theorem at_FromBits' {l : List Int} (h : l.length ≤ 1000000) (hl : ∀ z ∈ l, z = 0 ∨ z = 1) : g_ref01_FromBits (l, ()) = some (fBytes (fun t => l.getD t 0) ((l.length + 7) / 8)) :=
  Spec_at (ks := p_ref01_FromBits_ks) (rs := p_ref01_FromBits_rs) (x := (l, ())) ⟨⟨Nat.le_trans h (by decide), hl⟩, trivial⟩ h
theorem q_msg_Marks : ∀ x r, g_msg_Marks x = some r → ∃ N, p_msg_Marks N x = some r := by
  refine Spec_of (ks := p_msg_Marks_ks) (rs := p_msg_Marks_rs) fun x hw hq => ⟨0, ?_⟩
  obtain ⟨(l : List Int), u⟩ := x
  have hq : l.length ≤ 1000000 := hq
  obtain ⟨⟨_, hl⟩, _⟩ := hw
  show p_msg_Marks 0 (l, u) = some (marksS l)
  unfold p_msg_Marks marksS
  dsimp only
  by_cases h : 256 < l.length
  · rw [if_pos (by omega), if_pos h]
  · rw [if_neg (by omega), if_neg h, at_FromBits hq hl, Option.bind_some]
theorem q_ref21_Marks : ∀ x r, g_ref21_Marks x = some r → ∃ N, p_ref21_Marks N x = some r := by
  refine Spec_of (ks := p_ref21_Marks_ks) (rs := p_ref21_Marks_rs) fun x hw hq => ⟨0, ?_⟩
  obtain ⟨(l : List Int), u⟩ := x
  have hq : l.length ≤ 1000000 := hq
  obtain ⟨⟨_, hl⟩, _⟩ := hw
  show p_ref21_Marks 0 (l, u) = some (marksS l)
  unfold p_ref21_Marks marksS
  dsimp only
  by_cases h : 256 < l.length
  · rw [if_pos (by omega), if_pos h]
  · rw [if_neg (by omega), if_neg h, at_FromBits' hq hl, Option.bind_some]
theorem at_Marks {l : List Int} (h : l.length ≤ 1000000) (hl : ∀ z ∈ l, z = 0 ∨ z = 1) : g_msg_Marks (l, ()) = some (marksS l) :=
  Spec_at (ks := p_msg_Marks_ks) (rs := p_msg_Marks_rs) (x := (l, ())) ⟨⟨Nat.le_trans h (by decide), hl⟩, trivial⟩ h
theorem at_Marks' {l : List Int} (h : l.length ≤ 1000000) (hl : ∀ z ∈ l, z = 0 ∨ z = 1) : g_ref21_Marks (l, ()) = some (marksS l) :=
  Spec_at (ks := p_ref21_Marks_ks) (rs := p_ref21_Marks_rs) (x := (l, ())) ⟨⟨Nat.le_trans h (by decide), hl⟩, trivial⟩ h
theorem q_slices_Clonebyte_byte : ∀ x r, g_slices_Clonebyte_byte x = some r → ∃ N, p_slices_Clonebyte_byte N x = some r := by
  refine Spec_of (ks := p_slices_Clonebyte_byte_ks) (rs := p_slices_Clonebyte_byte_rs) fun x hw hq => ⟨0, ?_⟩
  obtain ⟨(l : List Int), u⟩ := x
  have hq : l.length ≤ 1000000 := hq
  show p_slices_Clonebyte_byte 0 (l, u) = some l
  unfold p_slices_Clonebyte_byte
  dsimp only
  by_cases h : l.length = 0
  · have : l = [] := List.eq_nil_of_length_eq_zero h
    subst this
    rw [if_pos h, if_pos (by simp)]
    exact both_some.2 ⟨rfl, rfl⟩
  · rw [if_neg h, if_pos (by omega)]
    rfl
theorem at_clone {l : List Int} (h : l.length ≤ 1000000) (hl : bytes l) : g_slices_Clonebyte_byte (l, ()) = some l := by
  have hM : 1000000 ≤ maxLen := by decide
  exact Spec_at (ks := p_slices_Clonebyte_byte_ks) (rs := p_slices_Clonebyte_byte_rs) (x := (l, ())) ⟨(wf_b1 (b := l)).2 ⟨by omega, hl⟩, trivial⟩ h
theorem q_msg_Clone : ∀ x r, g_msg_Clone x = some r → ∃ N, p_msg_Clone N x = some r := by
  refine Spec_of (ks := p_msg_Clone_ks) (rs := p_msg_Clone_rs) fun x hw hq => ⟨0, ?_⟩
  obtain ⟨(c : Ms), u⟩ := x
  obtain ⟨_, _, _, _, _, _, _, _, _, h10, h11, h12⟩ := wf_ms.1 hw.1
  obtain ⟨k1, k2, k3⟩ := hq
  unfold p_msg_Clone
  dsimp only
  rw [at_clone k1 h10.2, Option.bind_some, at_clone k2 h11.2, Option.bind_some, at_clone k3 h12.2, Option.bind_some]
theorem at_Clone {c : Ms} (h : msOk c) (h1 : c.2.2.2.2.2.2.2.2.2.1.length ≤ 1000000) (h2 : c.2.2.2.2.2.2.2.2.2.2.1.length ≤ 1000000) (h3 : c.2.2.2.2.2.2.2.2.2.2.2.1.length ≤ 1000000) : g_msg_Clone (c, ()) = some c :=
  Spec_at (ks := p_msg_Clone_ks) (rs := p_msg_Clone_rs) (x := (c, ())) ⟨wf_ms.2 h, trivial⟩ ⟨h1, h2, h3⟩
theorem sameS_iff {c d : Ms} : sameS c d = true ↔ c = d := by
  obtain ⟨a1, a2, a3, a4, a5, a6, a7, a8, a9, a10, a11, a12, ⟨⟩⟩ := c
  obtain ⟨b1, b2, b3, b4, b5, b6, b7, b8, b9, b10, b11, b12, ⟨⟩⟩ := d
  simp only [sameS, Bool.and_eq_true, decide_eq_true_eq, Prod.mk.injEq, and_true, and_assoc]
theorem two_eq {a b c d : Int} : a :: b :: [] = c :: d :: [] ↔ a = c ∧ b = d := by simp
theorem q_msg_Same : ∀ x r, g_msg_Same x = some r → ∃ N, p_msg_Same N x = some r := by
  refine Spec_of (ks := p_msg_Same_ks) (rs := p_msg_Same_rs) fun x hw hq => ⟨0, ?_⟩
  obtain ⟨(c : Ms), (d : Ms), u⟩ := x
  obtain ⟨_, _, _, _, _, _, _, _, _, h10, h11, h12⟩ := wf_ms.1 hw.1
  obtain ⟨_, _, _, _, _, _, _, _, _, k10, k11, k12⟩ := wf_ms.1 hw.2.1
  show p_msg_Same 0 (c, d, u) = some (sameS c d)
  unfold p_msg_Same sameS
  dsimp only
  rw [at_Same h10 k10, at_Same h11 k11, at_Same h12 k12]
  simp only [Option.bind_some]
  by_cases e1 : c.1 = d.1
  rotate_left
  · rw [if_neg e1, decide_eq_false e1]; simp
  rw [if_pos e1, decide_eq_true e1]
  by_cases e2 : c.2.1 = d.2.1
  rotate_left
  · rw [if_neg e2, decide_eq_false e2]; simp
  rw [if_pos e2, decide_eq_true e2]
  by_cases e3 : c.2.2.1 = d.2.2.1
  rotate_left
  · rw [if_neg e3, decide_eq_false e3]; simp
  rw [if_pos e3, decide_eq_true e3]
  by_cases e4 : c.2.2.2.1 = d.2.2.2.1
  rotate_left
  · rw [if_neg e4, decide_eq_false e4]; simp
  rw [if_pos e4, decide_eq_true e4]
  by_cases e5 : c.2.2.2.2.1 = d.2.2.2.2.1
  rotate_left
  · rw [if_neg e5, decide_eq_false e5]; simp
  rw [if_pos e5, decide_eq_true e5]
  by_cases e6 : c.2.2.2.2.2.1 = d.2.2.2.2.2.1
  rotate_left
  · rw [if_neg (fun h => e6 (two_eq.1 h).1), decide_eq_false e6]; simp
  by_cases e7 : c.2.2.2.2.2.2.1 = d.2.2.2.2.2.2.1
  rotate_left
  · rw [if_neg (fun h => e7 (two_eq.1 h).2), decide_eq_false e7]; simp
  rw [if_pos (two_eq.2 ⟨e6, e7⟩), decide_eq_true e6, decide_eq_true e7]
  by_cases e8 : c.2.2.2.2.2.2.2.1 = d.2.2.2.2.2.2.2.1
  rotate_left
  · rw [if_neg e8, decide_eq_false e8]; simp
  rw [if_pos e8, decide_eq_true e8]
  by_cases e9 : c.2.2.2.2.2.2.2.2.1 = d.2.2.2.2.2.2.2.2.1
  rotate_left
  · rw [if_neg e9, decide_eq_false e9]; simp
  rw [if_pos e9, decide_eq_true e9]
  cases decide (c.2.2.2.2.2.2.2.2.2.1 = d.2.2.2.2.2.2.2.2.2.1) with
  | false => rfl
  | true =>
  cases decide (c.2.2.2.2.2.2.2.2.2.2.1 = d.2.2.2.2.2.2.2.2.2.2.1) with
  | false => rfl
  | true =>
  cases decide (c.2.2.2.2.2.2.2.2.2.2.2.1 = d.2.2.2.2.2.2.2.2.2.2.2.1) <;> rfl
theorem at_msSame {c d : Ms} (hc : msOk c) (hd : msOk d) : g_msg_Same (c, d, ()) = some (sameS c d) :=
  Spec_at (ks := p_msg_Same_ks) (rs := p_msg_Same_rs) (x := (c, d, ())) ⟨wf_ms.2 hc, wf_ms.2 hd, trivial⟩ trivial
theorem q_law21_big : ∀ x r, g_law21_big x = some r → ∃ N, p_law21_big N x = some r := by
  refine Spec_of (ks := p_law21_big_ks) (rs := p_law21_big_rs) fun x hw hq => ⟨0, ?_⟩
  obtain ⟨(c : Ms), u⟩ := x
  show p_law21_big 0 (c, u) = some (bigB c)
  unfold p_law21_big bigB
  dsimp only
  by_cases h1 : ((c.2.2.2.2.2.2.2.2.2.1.length : Nat) : Int) > 9000
  · rw [if_pos h1, decide_eq_true (show 9000 < c.2.2.2.2.2.2.2.2.2.1.length by omega)]; rfl
  rw [if_neg h1, decide_eq_false (show ¬ 9000 < c.2.2.2.2.2.2.2.2.2.1.length by omega)]
  by_cases h2 : ((c.2.2.2.2.2.2.2.2.2.2.1.length : Nat) : Int) > 9000
  · rw [if_pos h2, decide_eq_true (show 9000 < c.2.2.2.2.2.2.2.2.2.2.1.length by omega)]; rfl
  rw [if_neg h2, decide_eq_false (show ¬ 9000 < c.2.2.2.2.2.2.2.2.2.2.1.length by omega)]
  simp only [Bool.false_or]
  exact congrArg some (decide_eq_decide.2 (by omega))
theorem at_bigB {c : Ms} (h : msOk c) : g_law21_big (c, ()) = some (bigB c) :=
  Spec_at (ks := p_law21_big_ks) (rs := p_law21_big_rs) (x := (c, ())) ⟨wf_ms.2 h, trivial⟩ trivial
end Go.Ax.TryP
/-! ### What is missing; words; the laws of marks and of words -/
set_option linter.unusedVariables false
set_option linter.unusedSimpArgs false
namespace Go.Ax.TryP
theorem first_le : ∀ (l : List Int), firstS l ≤ l.length
  | [] => Nat.le_refl _
  | z :: r => by
    have := first_le r
    unfold firstS
    split
    · exact Nat.zero_le _
    · simp only [List.length_cons]; omega
theorem first_lt : ∀ {l : List Int} {i : Nat}, i < firstS l → l.getD i 0 ≠ 0
  | [], i, h => by simp [firstS] at h
  | z :: r, i, h => by
    unfold firstS at h
    split at h
    · omega
    · rename_i hz
      cases i with
      | zero => exact hz
      | succ i => exact first_lt (l := r) (i := i) (by omega)
theorem first_at : ∀ {l : List Int}, firstS l < l.length → l.getD (firstS l) 0 = 0
  | [], h => by simp [firstS] at h
  | z :: r, h => by
    unfold firstS at h ⊢
    split
    · rename_i hz; exact hz
    · rename_i hz
      rw [if_neg hz] at h
      exact first_at (l := r) (by simp only [List.length_cons] at h; omega)
theorem q_slices_Indexbool_bool : ∀ x r, g_slices_Indexbool_bool x = some r → ∃ N, p_slices_Indexbool_bool N x = some r := by
  refine Spec_of (ks := p_slices_Indexbool_bool_ks) (rs := p_slices_Indexbool_bool_rs) fun x hw hq => ⟨x.1.length + 1, ?_⟩
  obtain ⟨(l : List Int), (v : Bool), u⟩ := x
  obtain ⟨hq, hv⟩ : l.length ≤ 1000000 ∧ v = false := hq
  subst hv
  have hle := first_le l
  show p_slices_Indexbool_bool (l.length + 1) (l, false, u) = some (if firstS l < l.length then (firstS l : Int) else -1)
  unfold p_slices_Indexbool_bool
  dsimp only
  have step : ∀ i, i < firstS l → ∀ (kn ke : _), p_slices_Indexbool_bool_l2_F (l.length + 1) Int (l.length, false, (l.length : Int), (i : Int), l.length, l, ()) kn ke = kn (l.length, false, (l.length : Int), ((i + 1 : Nat) : Int), l.length, l, ()) := by
    intro i hi kn ke
    have h0 := first_lt hi
    unfold p_slices_Indexbool_bool_l2_F
    dsimp only
    rw [if_pos (by omega), if_pos (by omega), if_pos (by omega), Int.toNat_natCast, if_pos (by omega), decide_eq_true h0, if_neg (by simp), wrap_i64 (by omega) (by omega)]
    rfl
  by_cases h : firstS l < l.length
  · rw [if_pos h]
    refine (iter_from (F := p_slices_Indexbool_bool_l2_F (l.length + 1)) (s := fun i => (l.length, false, (l.length : Int), (i : Int), l.length, l, ())) (y := .inl ((firstS l : Int), ())) (firstS l) rfl (fun i hi kn => step i hi kn _) ?_ (l.length + 1) (by omega)).trans rfl
    intro kn
    unfold p_slices_Indexbool_bool_l2_F
    dsimp only
    rw [if_pos (by omega), if_pos (by omega), if_pos (by omega), Int.toNat_natCast, if_pos (by omega), first_at h, if_pos (by simp)]
  · rw [if_neg h]
    have e : firstS l = l.length := by omega
    refine (iter_from (F := p_slices_Indexbool_bool_l2_F (l.length + 1)) (s := fun i => (l.length, false, (l.length : Int), (i : Int), l.length, l, ())) (y := .inr ()) (firstS l) rfl (fun i hi kn => step i hi kn _) ?_ (l.length + 1) (by omega)).trans rfl
    intro kn
    unfold p_slices_Indexbool_bool_l2_F
    dsimp only
    rw [if_neg (by omega)]
theorem at_Index {l : List Int} (h : l.length ≤ 1000000) (hl : ∀ z ∈ l, z = 0 ∨ z = 1) : g_slices_Indexbool_bool (l, false, ()) = some (if firstS l < l.length then (firstS l : Int) else -1) := by
  have hM : 1000000 ≤ maxLen := by decide
  exact Spec_at (ks := p_slices_Indexbool_bool_ks) (rs := p_slices_Indexbool_bool_rs) (x := (l, false, ())) ⟨wf_bl (l := l) (by omega) hl, trivial, trivial⟩ ⟨h, rfl⟩
/-- The bits of a checked message's marks. -/
theorem miss_facts {c : Ms} (h4 : c.1 = 4) (h : checkS c = 0) : (0 ≤ c.2.2.2.2.2.2.2.2.1 ∧ c.2.2.2.2.2.2.2.2.1 ≤ 256) ∧ (c.2.2.2.2.2.2.2.2.2.1.length : Int) = (c.2.2.2.2.2.2.2.2.1 + 7) / 8 := by
  have ho := check_ok h
  unfold okS at ho
  simp only [Bool.and_eq_true] at ho
  obtain ⟨_, _, _, _, a5, _, _, _, a9⟩ := ho
  rw [if_pos h4] at a9
  exact ⟨parts_le a5, (markS_iff.1 a9).1⟩
theorem q_msg_Missing : ∀ x r, g_msg_Missing x = some r → ∃ N, p_msg_Missing N x = some r := by
  refine Spec_of (ks := p_msg_Missing_ks) (rs := p_msg_Missing_rs) fun x hw hq => ⟨0, ?_⟩
  obtain ⟨(c : Ms), u⟩ := x
  have hc : msOk c := wf_ms.1 hw.1
  have hc2 := hc
  obtain ⟨_, _, _, _, _, _, _, _, _, h10, _⟩ := hc2
  show p_msg_Missing 0 (c, u) = some (missS c)
  unfold p_msg_Missing missS
  dsimp only
  by_cases h4 : c.1 = 4
  · rw [if_neg (fun h => h h4), ms_eta, at_Check hc, Option.bind_some]
    by_cases h : checkS c = 0
    · obtain ⟨hp, hl⟩ := miss_facts h4 h
      obtain ⟨n, hn⟩ : ∃ n : Nat, c.2.2.2.2.2.2.2.2.1 = n := ⟨c.2.2.2.2.2.2.2.2.1.toNat, by omega⟩
      have hbl := bitsOf_len c.2.2.2.2.2.2.2.2.2.1
      rw [hn] at hp hl
      rw [if_neg (fun g => g h), if_pos ⟨h4, h⟩, at_Bits (by omega) h10.2, Option.bind_some, hn, if_pos (by omega), if_pos (by omega), Int.toNat_natCast, List.drop_zero]
      have hlen : ((bitsOf c.2.2.2.2.2.2.2.2.2.1).take n).length = n := by rw [List.length_take]; omega
      rw [at_Index (by omega) (fun z hz => bitsOf_01 z (List.mem_of_mem_take hz)), Option.bind_some, hlen]
      have hle := first_le ((bitsOf c.2.2.2.2.2.2.2.2.2.1).take n)
      rw [hlen] at hle
      by_cases hf : firstS ((bitsOf c.2.2.2.2.2.2.2.2.2.1).take n) < n
      · rw [if_pos hf, if_neg (by omega)]
      · rw [if_neg hf, if_pos (by omega)]
        exact congrArg some (by omega)
    · rw [if_pos h, if_neg (fun g => h g.2)]
  · rw [if_pos h4, if_neg (fun g => h4 g.1)]
theorem at_Missing {c : Ms} (h : msOk c) : g_msg_Missing (c, ()) = some (missS c) := Spec_at (ks := p_msg_Missing_ks) (rs := p_msg_Missing_rs) (x := (c, ())) ⟨wf_ms.2 h, trivial⟩ trivial
theorem has_le (k : Int) : (hasS k).length ≤ 4 := by
  have hk : k = 1 ∨ k = 2 ∨ k = 3 ∨ k = 4 ∨ k = 5 ∨ k = 6 ∨ (k ≠ 1 ∧ k ≠ 2 ∧ k ≠ 3 ∧ k ≠ 4 ∧ k ≠ 5 ∧ k ≠ 6) := by omega
  rcases hk with rfl | rfl | rfl | rfl | rfl | rfl | ⟨g1, g2, g3, g4, g5, g6⟩
  all_goals first | decide | (unfold hasS; rw [if_neg g1, if_neg g2, if_neg g3, if_neg g4, if_neg g5, if_neg g6]; decide)
theorem form_len_bytes {c : Ms} (h : msOk c) (hf : fmOk c) (all : Bool) : (formS c all).length ≤ 300000 ∧ bytes (formS c all) := by
  obtain ⟨_, _, _, _, _, _, _, _, _, h10, h11, h12⟩ := h
  obtain ⟨_, _, _, _, f10, f11, f12⟩ := hf
  have key : ∀ x, (fieldS c all x).length ≤ 60010 ∧ bytes (fieldS c all x) := by
    intro x
    unfold fieldS
    repeat' split
    all_goals first
      | exact ⟨by simp only [List.length_append, bigS_len]; omega, by simp only [bytes_app, bigS_bytes, h10.2, h11.2, h12.2, and_self]⟩
      | exact ⟨by rw [bigS_len]; omega, bigS_bytes _ _⟩
      | exact ⟨by simp, bytes_nil⟩
  have hh : (headS c).length = 7 ∧ bytes (headS c) := by
    unfold headS
    refine ⟨by simp [bigS_len], bytes_app.2 ⟨fun z hz => ?_, bigS_bytes _ _⟩⟩
    simp only [List.mem_cons, List.not_mem_nil, or_false] at hz
    omega
  have hs : (hasS c.1).length ≤ 4 := has_le _
  have fl : ∀ (l : List Int), ((l.map (fieldS c all)).flatten).length ≤ 60010 * l.length ∧ bytes ((l.map (fieldS c all)).flatten) := by
    intro l
    induction l with
    | nil => exact ⟨by simp, bytes_nil⟩
    | cons a r ih =>
      simp only [List.map_cons, List.flatten_cons, List.length_append, List.length_cons, bytes_app]
      have := key a
      exact ⟨by omega, this.2, ih.2⟩
  have := fl (hasS c.1)
  unfold formS
  refine ⟨by rw [List.length_append]; omega, bytes_app.2 ⟨hh.2, this.2⟩⟩
theorem title_bytes : bytes titleS := fun z hz => by
  unfold titleS at hz
  simp only [List.mem_cons, List.not_mem_nil, or_false] at hz
  omega
theorem join2 {a b : List Int} (ha : a.length ≤ 300000) (hb : b.length ≤ 300000) (ka : bytes a) (kb : bytes b) : g_octet_Join ([a, b], ()) = some (a ++ b) := by
  have hM : 1000000 ≤ maxLen := by decide
  rw [at_Join ⟨by simp, by simp only [List.flatten_cons, List.flatten_nil, List.length_append, List.length_nil]; omega⟩ ⟨by simp only [List.length_cons, List.length_nil]; omega, fun zs hz => ?_⟩]
  · simp
  · simp only [List.mem_cons, List.not_mem_nil, or_false] at hz
    rcases hz with rfl | rfl
    · exact ⟨by omega, ka⟩
    · exact ⟨by omega, kb⟩
theorem q_msg_Words : ∀ x r, g_msg_Words x = some r → ∃ N, p_msg_Words N x = some r := by
  refine Spec_of (ks := p_msg_Words_ks) (rs := p_msg_Words_rs) fun x hw hq => ⟨0, ?_⟩
  obtain ⟨(c : Ms), u⟩ := x
  have hc : msOk c := wf_ms.1 hw.1
  show p_msg_Words 0 (c, u) = some (wordsS c)
  unfold p_msg_Words wordsS
  dsimp only
  rw [ms_eta, at_Check hc, Option.bind_some]
  by_cases h : checkS c = 0
  · have hf := ok_fm (check_ok h)
    have hl := form_len_bytes hc hf false
    rw [if_neg (fun g => g h), at_has hc.1 (by omega), Option.bind_some]
    by_cases hs : hasB c.1 115 = true
    · rw [if_neg (fun g => g hs), if_pos (show 0 < 14 by omega), if_pos ⟨h, hs⟩, at_form hc hf false, Option.bind_some]
      exact congrArg (fun o => Option.bind o _) (join2 (a := titleS) (by decide) hl.1 title_bytes hl.2)
    · rw [if_pos hs, if_neg (fun g => hs g.2)]
  · rw [if_pos h, if_neg (fun g => h g.1)]
theorem at_Words {c : Ms} (h : msOk c) : g_msg_Words (c, ()) = some (wordsS c) := Spec_at (ks := p_msg_Words_ks) (rs := p_msg_Words_rs) (x := (c, ())) ⟨wf_ms.2 h, trivial⟩ trivial
theorem words_ok {c : Ms} (h : msOk c) : (wordsS c).length ≤ 300014 ∧ bytes (wordsS c) := by
  unfold wordsS
  split
  · rename_i hh
    have := form_len_bytes h (ok_fm (check_ok hh.1)) false
    have ht : titleS.length = 14 := rfl
    exact ⟨by rw [List.length_append]; omega, bytes_app.2 ⟨title_bytes, this.2⟩⟩
  · exact ⟨by simp, bytes_nil⟩
end Go.Ax.TryP
/-! ### The laws of marks and of words -/
set_option linter.unusedVariables false
set_option linter.unusedSimpArgs false
namespace Go.Ax.TryP
/-- The number of bytes, the highest first. -/
def numS (b : List Int) : Int := b.foldl (fun a z => a * 256 + z) 0
theorem bigS_succ (n : Int) (w : Nat) : bigS n (w + 1) = bigS (n / 256) w ++ [n % 256] := by
  unfold bigS
  rw [List.range_succ, List.map_append]
  congr 1
  · refine List.map_congr_left fun i hi => ?_
    rw [List.mem_range] at hi
    have e : 8 * (w + 1 - 1 - i) = 8 + 8 * (w - 1 - i) := by omega
    rw [e, Int.pow_add, show (2 : Int) ^ 8 = 256 by decide, Int.ediv_ediv_of_nonneg (by decide)]
  · simp
theorem numS_append (a b : List Int) : numS (a ++ b) = b.foldl (fun a z => a * 256 + z) (numS a) := by unfold numS; rw [List.foldl_append]
theorem numS_bigS : ∀ (w : Nat) (n : Int), 0 ≤ n → n < 256 ^ w → numS (bigS n w) = n
  | 0, n, h0, h1 => by
    have : n = 0 := by simp at h1; omega
    subst this; rfl
  | w + 1, n, h0, h1 => by
    have h2 : n / 256 < 256 ^ w := by
      rw [Int.pow_succ] at h1
      exact Int.ediv_lt_of_lt_mul (by decide) h1
    rw [bigS_succ, numS_append, numS_bigS w (n / 256) (by omega) h2]
    simp only [List.foldl_cons, List.foldl_nil]
    omega
theorem bigS_inj {w : Nat} {n m : Int} (hn : 0 ≤ n ∧ n < 256 ^ w) (hm : 0 ≤ m ∧ m < 256 ^ w) (h : bigS n w = bigS m w) : n = m := by
  rw [← numS_bigS w n hn.1 hn.2, h, numS_bigS w m hm.1 hm.2]
theorem marks_bytes {l : List Int} (hl : ∀ z ∈ l, z = 0 ∨ z = 1) : (marksS l).length ≤ (l.length + 7) / 8 ∧ bytes (marksS l) := by
  unfold marksS
  split
  · exact ⟨by simp, bytes_nil⟩
  · have := fBytes_u8 (e := fun t => l.getD t 0) (n := (l.length + 7) / 8) (fun t _ => by rcases bool_at hl t with h | h <;> omega)
    exact ⟨by rw [fBytes_len]; omega, fun z hz => this.2 z hz⟩
theorem marks_bits {l : List Int} (hl : ∀ z ∈ l, z = 0 ∨ z = 1) (h : l.length ≤ 256) : (bitsOf (marksS l)).take l.length = l := by
  have he : ∀ t, t < 8 * ((l.length + 7) / 8) → 0 ≤ l.getD t 0 ∧ l.getD t 0 ≤ 1 := fun t _ => by rcases bool_at hl t with h | h <;> omega
  have hm : marksS l = fBytes (fun t => l.getD t 0) ((l.length + 7) / 8) := by unfold marksS; rw [if_neg (by omega)]
  rw [hm]
  have hlen : (bitsOf (fBytes (fun t => l.getD t 0) ((l.length + 7) / 8))).length = 8 * ((l.length + 7) / 8) := by rw [bitsOf_len, fBytes_len]
  refine rows.ext (n := l.length) (by rw [List.length_take, hlen]; omega) rfl fun i hi => ?_
  have e1 : ((bitsOf (fBytes (fun t => l.getD t 0) ((l.length + 7) / 8))).take l.length).getD i 0 = (bitsOf (fBytes (fun t => l.getD t 0) ((l.length + 7) / 8))).getD i 0 := by
    rw [List.getD_eq_getElem?_getD, List.getD_eq_getElem?_getD, List.getElem?_take, if_pos hi]
  rw [e1, bitsOf_getD (by rw [fBytes_len]; omega), bitAt_fBytes he (by omega)]
theorem four64 : (-9223372036854775808 : Int) ≤ 4 ∧ (4 : Int) ≤ 9223372036854775807 := by decide
theorem zero64 : (-9223372036854775808 : Int) ≤ 0 ∧ (0 : Int) ≤ 9223372036854775807 := by decide
theorem zero32 : (0 : Int) ≤ 0 ∧ (0 : Int) ≤ 4294967295 := by decide
theorem zerou64 : (0 : Int) ≤ 0 ∧ (0 : Int) ≤ 18446744073709551615 := by decide
theorem q_law21_MsgMarks : ∀ x r, g_law21_MsgMarks x = some r → ∃ N, p_law21_MsgMarks N x = some r := by
  refine Spec_of (ks := p_law21_MsgMarks_ks) (rs := p_law21_MsgMarks_rs) fun x hw hq => ⟨1002, ?_⟩
  obtain ⟨(l : List Int), (fr : Int), (to : Int), u⟩ := x
  obtain ⟨⟨_, hl⟩, hf, ht, _⟩ := hw
  have hl : ∀ z ∈ l, z = 0 ∨ z = 1 := hl
  have hf : -9223372036854775808 ≤ fr ∧ fr ≤ 9223372036854775807 := okInt_i64.1 hf
  have ht : -9223372036854775808 ≤ to ∧ to ≤ 9223372036854775807 := okInt_i64.1 ht
  have hM : 1000000 ≤ maxLen := by decide
  show p_law21_MsgMarks 1002 (l, fr, to, u) = some true
  unfold p_law21_MsgMarks
  dsimp only
  rw [at_live, Option.bind_some, if_neg (by simp)]
  by_cases hlen : (l.length : Int) > 1000
  · rw [if_pos hlen]
    rfl
  obtain ⟨hb1, hb2⟩ := marks_bytes hl
  rw [if_neg hlen, at_Marks (by omega) hl, Option.bind_some, at_Marks' (by omega) hl, Option.bind_some, at_Equal ⟨by omega, hb2⟩ ⟨by omega, hb2⟩, Option.bind_some, if_neg (by simp)]
  have hm : msOk (4, fr, to, 0, 0, 0, 0, 0, (l.length : Int), marksS l, [], [], ()) :=
    ⟨four64, hf, ht, zero32, zero32, zerou64, zerou64, zero64, ⟨by show -9223372036854775808 ≤ (l.length : Int); omega, by show (l.length : Int) ≤ 9223372036854775807; omega⟩, ⟨by show (marksS l).length ≤ maxLen; omega, hb2⟩, ⟨Nat.zero_le _, bytes_nil⟩, Nat.zero_le _, bytes_nil⟩
  refine (congrArg (fun o => Option.bind o _) (at_Check hm)).trans ?_
  rw [Option.bind_some]
  by_cases h : checkS (4, fr, to, 0, 0, 0, 0, 0, (l.length : Int), marksS l, [], [], ()) = 0
  · rw [if_neg (fun g => g h)]
    obtain ⟨hp, _⟩ := miss_facts rfl h
    have hp : 0 ≤ (l.length : Int) ∧ (l.length : Int) ≤ 256 := hp
    have hmiss : missS (4, fr, to, 0, 0, 0, 0, 0, (l.length : Int), marksS l, [], [], ()) = (firstS l : Int) := by
      unfold missS
      rw [if_pos ⟨rfl, h⟩]
      show (firstS ((bitsOf (marksS l)).take ((l.length : Int).toNat)) : Int) = _
      rw [Int.toNat_natCast, marks_bits hl (by omega)]
    have hle := first_le l
    refine (iter_from (F := p_law21_MsgMarks_l10_F 1002) (s := fun i => (l.length, (i : Int), l.length, l, [4], [fr], [to], [0], [0], [0, 0], [0], [(l.length : Int)], (marksS l).length, (marksS l).length, marksS l, ()))
      (y := ((firstS l : Int), [4], [fr], [to], [0], [0], [0, 0], [0], [(l.length : Int)], (marksS l).length, (marksS l).length, marksS l, ())) (firstS l) rfl ?_ ?_ 1002 (by omega)).trans ?_
    · intro i hi kn
      have h0 := first_lt hi
      unfold p_law21_MsgMarks_l10_F
      dsimp only
      rw [if_pos (by omega), if_pos (by omega), if_pos (by omega), Int.toNat_natCast, if_pos (by omega), if_pos h0, wrap_i64 (by omega) (by omega)]
      rfl
    · intro kn
      unfold p_law21_MsgMarks_l10_F
      dsimp only
      by_cases hfl : firstS l < l.length
      · rw [if_pos (by omega), if_pos (by omega), if_pos (by omega), Int.toNat_natCast, if_pos (by omega), if_neg (fun g => g (first_at hfl))]
      · rw [if_neg (by omega)]
    · refine (congrArg (fun o => Option.bind o _) (at_Missing hm)).trans ?_
      rw [Option.bind_some, hmiss]
      simp
  · rw [if_pos h]
    refine (congrArg (fun o => Option.bind o _) (at_Missing hm)).trans ?_
    rw [Option.bind_some]
    have : missS (4, fr, to, 0, 0, 0, 0, 0, (l.length : Int), marksS l, [], [], ()) = -1 := by
      unfold missS
      rw [if_neg (fun g => h g.2)]
    rw [this]
    rfl
theorem has_sig {k : Int} (h : hasB k 115 = true) : k = 2 ∨ k = 5 ∨ k = 6 := by
  have hk : k = 1 ∨ k = 2 ∨ k = 3 ∨ k = 4 ∨ k = 5 ∨ k = 6 ∨ (k ≠ 1 ∧ k ≠ 2 ∧ k ≠ 3 ∧ k ≠ 4 ∧ k ≠ 5 ∧ k ≠ 6) := by omega
  rcases hk with rfl | rfl | rfl | rfl | rfl | rfl | ⟨g1, g2, g3, g4, g5, g6⟩
  · revert h; decide
  · exact .inl rfl
  · revert h; decide
  · revert h; decide
  · exact .inr (.inl rfl)
  · exact .inr (.inr rfl)
  · unfold hasB hasS at h
    rw [if_neg g1, if_neg g2, if_neg g3, if_neg g4, if_neg g5, if_neg g6] at h
    simp at h
/-- What a checked message with a signature holds. -/
theorem sig_facts {c : Ms} (h : okS c = true) (hs : hasB c.1 115 = true) : (0 ≤ c.2.1 ∧ c.2.1 < 16) ∧ (0 ≤ c.2.2.1 ∧ c.2.2.1 < 16) ∧ c.2.2.2.2.2.2.2.1 = 0 ∧ c.2.2.2.2.2.2.2.2.1 = 0 ∧ c.2.2.2.2.2.2.2.2.2.1 = [] ∧ (c.1 ≠ 2 → c.2.2.2.2.2.2.2.2.2.2.1 = []) ∧ c.2.2.2.2.2.2.2.2.2.2.1.length ≤ 6446 := by
  have e1 : hasB c.1 110 = false ∧ hasB c.1 112 = false ∧ hasB c.1 100 = false := by
    rcases has_sig hs with h | h | h <;> rw [h] <;> decide
  have e2 : c.1 ≠ 2 → hasB c.1 99 = false := by
    intro h2
    rcases has_sig hs with h | h | h
    · exact absurd h h2
    · rw [h]; decide
    · rw [h]; decide
  unfold okS at h
  simp only [Bool.and_eq_true, devS, decide_eq_true_eq] at h
  obtain ⟨a1, a2, _, _, a5, a6, a7, _, _⟩ := h
  unfold partedS at a5
  rw [e1.1, e1.2.1] at a5
  simp only [Bool.and_eq_true, decide_eq_true_eq] at a5
  rw [if_neg (by simp)] at a5
  have p0 : c.2.2.2.2.2.2.2.2.1 = 0 := by simpa using a5.1
  have q0 : c.2.2.2.2.2.2.2.1 = 0 := of_decide_eq_true a5.2.2
  rw [e1.2.2] at a6
  have d0 : c.2.2.2.2.2.2.2.2.2.1 = [] := by
    unfold withS at a6
    rw [if_neg (by simp)] at a6
    exact List.eq_nil_of_length_eq_zero (of_decide_eq_true a6)
  refine ⟨a1, a2, q0, p0, d0, fun h2 => ?_, ?_⟩
  · rw [e2 h2] at a7
    unfold withS at a7
    rw [if_neg (by simp)] at a7
    exact List.eq_nil_of_length_eq_zero (of_decide_eq_true a7)
  · unfold withS at a7
    split at a7
    · have := of_decide_eq_true a7; omega
    · have := of_decide_eq_true a7; omega
end Go.Ax.TryP
/-! ### The law of words -/
set_option linter.unusedVariables false
set_option linter.unusedSimpArgs false
namespace Go.Ax.TryP
/-- A message with another's signature. -/
def withSig (c : Ms) (s : List Int) : Ms := (c.1, c.2.1, c.2.2.1, c.2.2.2.1, c.2.2.2.2.1, c.2.2.2.2.2.1, c.2.2.2.2.2.2.1, c.2.2.2.2.2.2.2.1, c.2.2.2.2.2.2.2.2.1, c.2.2.2.2.2.2.2.2.2.1, c.2.2.2.2.2.2.2.2.2.2.1, s, ())
theorem form_sig (c : Ms) (s : List Int) : formS (withSig c s) false = formS c false := by
  unfold formS
  congr 1
  refine congrArg List.flatten (List.map_congr_left fun x _ => ?_)
  unfold fieldS
  simp [withSig]
theorem form_inj_k {fr to tid key lo hi pt pts fr' to' tid' key' lo' hi' pt' pts' : Int} {d ce sg d' ce' sg' : List Int} {k k' : Int} (hk : k = 2 ∨ k = 5 ∨ k = 6) (hk' : k' = 2 ∨ k' = 5 ∨ k' = 6)
    (f1 : 0 ≤ fr ∧ fr < 16) (f1' : 0 ≤ fr' ∧ fr' < 16) (f2 : 0 ≤ to ∧ to < 16) (f2' : 0 ≤ to' ∧ to' < 16) (f3 : 0 ≤ tid ∧ tid ≤ 4294967295) (f3' : 0 ≤ tid' ∧ tid' ≤ 4294967295) (f4 : 0 ≤ key ∧ key ≤ 4294967295) (f4' : 0 ≤ key' ∧ key' ≤ 4294967295)
    (f5 : 0 ≤ lo ∧ lo ≤ 18446744073709551615) (f5' : 0 ≤ lo' ∧ lo' ≤ 18446744073709551615) (f6 : 0 ≤ hi ∧ hi ≤ 18446744073709551615) (f6' : 0 ≤ hi' ∧ hi' ≤ 18446744073709551615) (f7 : k ≠ 2 → ce = []) (f7' : k' ≠ 2 → ce' = []) (f8 : ce.length ≤ 6446) (f8' : ce'.length ≤ 6446)
    (h : formS (k, fr, to, tid, key, lo, hi, pt, pts, d, ce, sg, ()) false = formS (k', fr', to', tid', key', lo', hi', pt', pts', d', ce', sg', ()) false) :
    k = k' ∧ fr = fr' ∧ to = to' ∧ tid = tid' ∧ key = key' ∧ lo = lo' ∧ hi = hi' ∧ ce = ce' := by
  have p4 : (256 : Int) ^ 4 = 4294967296 := by decide
  have p8 : (256 : Int) ^ 8 = 18446744073709551616 := by decide
  have p2 : (256 : Int) ^ 2 = 65536 := by decide
  have e0 : k % 256 = k' % 256 ∧ fr % 256 = fr' % 256 ∧ to % 256 = to' % 256 := by
    have h2 := congrArg (fun l => l.take 3) h
    simpa [formS, headS] using h2
  have e1 : k = k' := by rcases hk with rfl | rfl | rfl <;> rcases hk' with rfl | rfl | rfl <;> omega
  have e2 : fr = fr' := by omega
  have e3 : to = to' := by omega
  subst e1 e2 e3
  have tail : ∀ {x y : List Int}, bigS tid 4 ++ (bigS key 4 ++ (bigS lo 8 ++ (bigS hi 8 ++ x))) = bigS tid' 4 ++ (bigS key' 4 ++ (bigS lo' 8 ++ (bigS hi' 8 ++ y))) → tid = tid' ∧ key = key' ∧ lo = lo' ∧ hi = hi' ∧ x = y := by
    intro x y h
    obtain ⟨g1, h⟩ := List.append_inj h (by rw [bigS_len, bigS_len])
    obtain ⟨g2, h⟩ := List.append_inj h (by rw [bigS_len, bigS_len])
    obtain ⟨g3, h⟩ := List.append_inj h (by rw [bigS_len, bigS_len])
    obtain ⟨g4, h⟩ := List.append_inj h (by rw [bigS_len, bigS_len])
    exact ⟨bigS_inj (by omega) (by omega) g1, bigS_inj (by omega) (by omega) g2, bigS_inj (by omega) (by omega) g3, bigS_inj (by omega) (by omega) g4, h⟩
  rcases hk with rfl | rfl | rfl
  · have h2 : bigS tid 4 ++ (bigS key 4 ++ (bigS lo 8 ++ (bigS hi 8 ++ (bigS (ce.length : Int) 2 ++ ce)))) = bigS tid' 4 ++ (bigS key' 4 ++ (bigS lo' 8 ++ (bigS hi' 8 ++ (bigS (ce'.length : Int) 2 ++ ce')))) := by
      simpa [formS, headS, hasS, fieldS] using h
    obtain ⟨g1, g2, g3, g4, g5⟩ := tail h2
    obtain ⟨_, g6⟩ := List.append_inj g5 (by rw [bigS_len, bigS_len])
    exact ⟨rfl, rfl, rfl, g1, g2, g3, g4, g6⟩
  · have h2 : bigS tid 4 ++ (bigS key 4 ++ (bigS lo 8 ++ (bigS hi 8 ++ []))) = bigS tid' 4 ++ (bigS key' 4 ++ (bigS lo' 8 ++ (bigS hi' 8 ++ []))) := by
      simpa [formS, headS, hasS, fieldS] using h
    obtain ⟨g1, g2, g3, g4, _⟩ := tail h2
    exact ⟨rfl, rfl, rfl, g1, g2, g3, g4, by rw [f7 (by omega), f7' (by omega)]⟩
  · have h2 : bigS tid 4 ++ (bigS key 4 ++ (bigS lo 8 ++ (bigS hi 8 ++ []))) = bigS tid' 4 ++ (bigS key' 4 ++ (bigS lo' 8 ++ (bigS hi' 8 ++ []))) := by
      simpa [formS, headS, hasS, fieldS] using h
    obtain ⟨g1, g2, g3, g4, _⟩ := tail h2
    exact ⟨rfl, rfl, rfl, g1, g2, g3, g4, by rw [f7 (by omega), f7' (by omega)]⟩
theorem form_inj {a b : Ms} (ha : msOk a) (hb : msOk b) (oa : okS a = true) (ob : okS b = true) (sa : hasB a.1 115 = true) (sb : hasB b.1 115 = true) (h : formS a false = formS b false) : a = withSig b a.2.2.2.2.2.2.2.2.2.2.2.1 := by
  obtain ⟨x1, x2, x3, x4, x5, x6, x7⟩ := sig_facts oa sa
  obtain ⟨y1, y2, y3, y4, y5, y6, y7⟩ := sig_facts ob sb
  obtain ⟨_, _, _, a4, a5, a6, a7, _⟩ := ha
  obtain ⟨_, _, _, b4, b5, b6, b7, _⟩ := hb
  have ka := has_sig sa
  have kb := has_sig sb
  obtain ⟨k, fr, to, tid, key, lo, hi, pt, pts, d, ce, sg, ⟨⟩⟩ := a
  obtain ⟨k', fr', to', tid', key', lo', hi', pt', pts', d', ce', sg', ⟨⟩⟩ := b
  dsimp only at x1 x2 x3 x4 x5 x6 x7 y1 y2 y3 y4 y5 y6 y7 a4 a5 a6 a7 b4 b5 b6 b7 ka kb
  obtain ⟨g1, g2, g3, g4, g5, g6, g7, g8⟩ := form_inj_k ka kb x1 y1 x2 y2 a4 b4 a5 b5 a6 b6 a7 b7 x6 y6 x7 y7 h
  subst g1 g2 g3 g4 g5 g6 g7 g8 x3 x4 x5 y3 y4 y5
  rfl
theorem withSig_ok {c : Ms} (h : msOk c) {s : List Int} (hs : s.length ≤ maxLen ∧ bytes s) : msOk (withSig c s) := by
  obtain ⟨h1, h2, h3, h4, h5, h6, h7, h8, h9, h10, h11, h12⟩ := h
  exact ⟨h1, h2, h3, h4, h5, h6, h7, h8, h9, h10, h11, hs⟩
theorem sig_has {c : Ms} (h : okS c = true) (hl : ¬ (c.2.2.2.2.2.2.2.2.2.2.2.1.length : Int) = 0) : hasB c.1 115 = true := by
  unfold okS at h
  simp only [Bool.and_eq_true] at h
  obtain ⟨_, _, _, _, _, _, _, a8, _⟩ := h
  unfold withS at a8
  split at a8
  · assumption
  · have := of_decide_eq_true a8; omega
theorem has_nosig {c : Ms} (h : okS c = true) (hl : (c.2.2.2.2.2.2.2.2.2.2.2.1.length : Int) = 0) : hasB c.1 115 ≠ true := by
  intro hs
  unfold okS at h
  simp only [Bool.and_eq_true] at h
  obtain ⟨_, _, _, _, _, _, _, a8, _⟩ := h
  unfold withS at a8
  rw [if_pos hs] at a8
  have := of_decide_eq_true a8
  omega
theorem none_words {c : Ms} (h : checkS c ≠ 0 ∨ hasB c.1 115 ≠ true) : wordsS c = [] := by
  unfold wordsS
  rw [if_neg]
  rintro ⟨h1, h2⟩
  rcases h with h | h
  · exact h h1
  · exact h h2
theorem q_law21_MsgWords : ∀ x r, g_law21_MsgWords x = some r → ∃ N, p_law21_MsgWords N x = some r := by
  refine Spec_of (ks := p_law21_MsgWords_ks) (rs := p_law21_MsgWords_rs) fun x hw hq => ⟨0, ?_⟩
  obtain ⟨(a : Ms), (b : Ms), u⟩ := x
  have ha : msOk a := wf_ms.1 hw.1
  have hb : msOk b := wf_ms.1 hw.2.1
  have hM : 1000000 ≤ maxLen := by decide
  show p_law21_MsgWords 0 (a, b, u) = some true
  unfold p_law21_MsgWords
  dsimp only
  rw [at_live, Option.bind_some, if_neg (by simp), ms_eta a, ms_eta b, at_bigB ha, Option.bind_some]
  by_cases ba : bigB a = true
  · rw [if_pos ba]; rfl
  rw [if_neg ba, at_bigB hb, Option.bind_some]
  by_cases bb : bigB b = true
  · rw [if_pos bb]; rfl
  rw [if_neg bb, at_Words ha, Option.bind_some, at_Words hb, Option.bind_some, at_Check ha, Option.bind_some]
  have end1 : ∀ {w : List Int} {v : List Int}, (w = [] ∨ v = []) → (if ((w.length : Nat) : Int) = 0 then some true else some (decide (((v.length : Nat) : Int) = 0))) = some true := by
    intro w v h
    rcases h with rfl | rfl
    · rfl
    · split <;> simp
  by_cases ca : checkS a = 0
  rotate_left
  · rw [if_pos ca]
    exact end1 (.inl (none_words (.inl ca)))
  rw [if_neg (fun g => g ca), at_Check hb, Option.bind_some]
  by_cases cb : checkS b = 0
  rotate_left
  · rw [if_pos cb]
    exact end1 (.inr (none_words (.inl cb)))
  rw [if_neg (fun g => g cb)]
  have oa := check_ok ca
  have ob := check_ok cb
  by_cases la : ((a.2.2.2.2.2.2.2.2.2.2.2.1.length : Nat) : Int) = 0
  · rw [if_pos la]
    exact end1 (.inl (none_words (.inr (has_nosig oa la))))
  rw [if_neg la]
  by_cases lb : ((b.2.2.2.2.2.2.2.2.2.2.2.1.length : Nat) : Int) = 0
  · rw [if_pos lb]
    exact end1 (.inr (none_words (.inr (has_nosig ob lb))))
  rw [if_neg lb]
  have sa := sig_has oa la
  have sb := sig_has ob lb
  have wa : wordsS a = titleS ++ formS a false := by unfold wordsS; rw [if_pos ⟨ca, sa⟩]
  have wb : wordsS b = titleS ++ formS b false := by unfold wordsS; rw [if_pos ⟨cb, sb⟩]
  have ya := words_ok ha
  have yb := words_ok hb
  unfold bigB at bb
  simp only [Bool.or_eq_true, decide_eq_true_eq, not_or] at bb
  rw [at_Clone hb (by omega) (by omega) (by omega), Option.bind_some, at_Equal ⟨by omega, ya.2⟩ ⟨by omega, yb.2⟩, Option.bind_some]
  have hc := withSig_ok hb (s := a.2.2.2.2.2.2.2.2.2.2.2.1) ha.2.2.2.2.2.2.2.2.2.2.2
  refine (congrArg (fun o => Option.bind o _) (at_msSame ha hc)).trans ?_
  rw [Option.bind_some]
  have key : wordsS a = wordsS b ↔ sameS a (withSig b a.2.2.2.2.2.2.2.2.2.2.2.1) = true := by
    rw [sameS_iff, wa, wb]
    constructor
    · intro h
      exact form_inj ha hb oa ob sa sb (List.append_cancel_left h)
    · intro h
      rw [show formS a false = formS b false by conv => lhs; rw [h]
                                                exact form_sig b _]
  have e1 : decide (decide (wordsS a = wordsS b) = true) = decide (sameS a (withSig b a.2.2.2.2.2.2.2.2.2.2.2.1) = true) := by
    rw [decide_eq_decide, decide_eq_true_eq]
    exact key
  rw [if_pos e1]
  refine congrArg some (decide_eq_true ?_)
  have ht : titleS.length = 14 := rfl
  rw [wa, List.length_append]
  omega
end Go.Ax.TryP
/-! Printed by program (wires.py): the functions keep their signatures. -/
namespace Go.Ax.TryP
theorem s_octet_FromBits : SigOk Go.Proofs.Try.prog 53 ⟨[.sl .bool], [.sl (.int .u8)], g_octet_FromBits⟩ := p_octet_FromBits_ok q_octet_FromBits
theorem s_ref01_FromBits : SigOk Go.Proofs.Try.prog 54 ⟨[.sl .bool], [.sl (.int .u8)], g_ref01_FromBits⟩ := p_ref01_FromBits_ok q_ref01_FromBits
theorem s_msg_Marks : SigOk Go.Proofs.Try.prog 29 ⟨[.sl .bool], [.sl (.int .u8)], g_msg_Marks⟩ := p_msg_Marks_ok s_octet_FromBits q_msg_Marks
theorem s_ref21_Marks : SigOk Go.Proofs.Try.prog 30 ⟨[.sl .bool], [.sl (.int .u8)], g_ref21_Marks⟩ := p_ref21_Marks_ok s_ref01_FromBits q_ref21_Marks
theorem s_slices_Clonebyte_byte : SigOk Go.Proofs.Try.prog 42 ⟨[.sl (.int .u8)], [.sl (.int .u8)], g_slices_Clonebyte_byte⟩ := p_slices_Clonebyte_byte_ok q_slices_Clonebyte_byte
theorem s_msg_Clone : SigOk Go.Proofs.Try.prog 24 ⟨[.cat [.int .i64, .int .i64, .int .i64, .int .u32, .int .u32, .int .u64, .int .u64, .int .i64, .int .i64, .sl (.int .u8), .sl (.int .u8), .sl (.int .u8)]], [.cat [.int .i64, .int .i64, .int .i64, .int .u32, .int .u32, .int .u64, .int .u64, .int .i64, .int .i64, .sl (.int .u8), .sl (.int .u8), .sl (.int .u8)]], g_msg_Clone⟩ := p_msg_Clone_ok s_slices_Clonebyte_byte q_msg_Clone
theorem s_octet_Same : SigOk Go.Proofs.Try.prog 52 ⟨[.sl (.int .u8), .sl (.int .u8)], [.bool], g_octet_Same⟩ := p_octet_Same_ok q_octet_Same
theorem s_msg_Same : SigOk Go.Proofs.Try.prog 27 ⟨[.cat [.int .i64, .int .i64, .int .i64, .int .u32, .int .u32, .int .u64, .int .u64, .int .i64, .int .i64, .sl (.int .u8), .sl (.int .u8), .sl (.int .u8)], .cat [.int .i64, .int .i64, .int .i64, .int .u32, .int .u32, .int .u64, .int .u64, .int .i64, .int .i64, .sl (.int .u8), .sl (.int .u8), .sl (.int .u8)]], [.bool], g_msg_Same⟩ := p_msg_Same_ok s_octet_Same q_msg_Same
theorem s_slices_Indexbool_bool : SigOk Go.Proofs.Try.prog 39 ⟨[.sl .bool, .bool], [.int .i64], g_slices_Indexbool_bool⟩ := p_slices_Indexbool_bool_ok q_slices_Indexbool_bool
theorem s_msg_Missing : SigOk Go.Proofs.Try.prog 22 ⟨[.cat [.int .i64, .int .i64, .int .i64, .int .u32, .int .u32, .int .u64, .int .u64, .int .i64, .int .i64, .sl (.int .u8), .sl (.int .u8), .sl (.int .u8)]], [.int .i64], g_msg_Missing⟩ := p_msg_Missing_ok s_msg_Check s_octet_Bits s_slices_Indexbool_bool q_msg_Missing
theorem s_law21_big : SigOk Go.Proofs.Try.prog 16 ⟨[.cat [.int .i64, .int .i64, .int .i64, .int .u32, .int .u32, .int .u64, .int .u64, .int .i64, .int .i64, .sl (.int .u8), .sl (.int .u8), .sl (.int .u8)]], [.bool], g_law21_big⟩ := p_law21_big_ok q_law21_big
theorem s_msg_Words : SigOk Go.Proofs.Try.prog 20 ⟨[.cat [.int .i64, .int .i64, .int .i64, .int .u32, .int .u32, .int .u64, .int .u64, .int .i64, .int .i64, .sl (.int .u8), .sl (.int .u8), .sl (.int .u8)]], [.sl (.int .u8)], g_msg_Words⟩ := p_msg_Words_ok s_msg_Check s_msg_has s_msg_form s_octet_Join q_msg_Words
theorem s_law21_MsgMarks : SigOk Go.Proofs.Try.prog 6 ⟨[.sl .bool, .int .i64, .int .i64], [.bool], g_law21_MsgMarks⟩ := p_law21_MsgMarks_ok s_law21_live s_msg_Marks s_ref21_Marks s_ref01_Equal s_msg_Check s_msg_Missing q_law21_MsgMarks
theorem s_law21_MsgWords : SigOk Go.Proofs.Try.prog 7 ⟨[.cat [.int .i64, .int .i64, .int .i64, .int .u32, .int .u32, .int .u64, .int .u64, .int .i64, .int .i64, .sl (.int .u8), .sl (.int .u8), .sl (.int .u8)], .cat [.int .i64, .int .i64, .int .i64, .int .u32, .int .u32, .int .u64, .int .u64, .int .i64, .int .i64, .sl (.int .u8), .sl (.int .u8), .sl (.int .u8)]], [.bool], g_law21_MsgWords⟩ := p_law21_MsgWords_ok s_law21_live s_law21_big s_msg_Words s_msg_Check s_msg_Clone s_ref01_Equal s_msg_Same q_law21_MsgWords
end Go.Ax.TryP
