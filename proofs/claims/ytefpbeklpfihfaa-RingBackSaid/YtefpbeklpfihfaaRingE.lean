/- A part of the proof: RingOS, RingOP, RingOQ, RingS6, RingP7, RingQ17, RingW3. -/
import Derived.Test.YtefpbeklpfihfaaAxC
import Derived.Test.YtefpbeklpfihfaaRingB
import Derived.Test.YtefpbeklpfihfaaRingD
/-! ### What the functions of the octets compute -/
namespace Go.Ax.TryP
noncomputable def g_ref01_Bits : List Int × Unit → Option (List Int) := Spec (ks := [.sl (.int .u8)]) (rs := [.sl .bool]) (fun x => x.1.length ≤ 1000000) fun x => bitsOf x.1
noncomputable def g_ref01_FromBits : List Int × Unit → Option (List Int) := Spec (ks := [.sl .bool]) (rs := [.sl (.int .u8)]) (fun x => x.1.length ≤ 1000000) fun x => fBytes (fun t => x.1.getD t 0) ((x.1.length + 7) / 8)
noncomputable def g_ref01_Equal : List Int × List Int × Unit → Option Bool := Spec (ks := [.sl (.int .u8), .sl (.int .u8)]) (rs := [.bool]) (fun _ => True) fun x => decide (x.1 = x.2.1)
end Go.Ax.TryP
/-! Printed by program (gen.py). -/
set_option linter.unusedVariables false
namespace Go.Ax.TryP
/-! livery/liveryref01.Bits -/
noncomputable def p_ref01_Bits_E : AE := AE.of [(3, ty3), (4, ty4), (5, ty5), (34, ty34), (52, ty52)] []
noncomputable def p_ref01_Bits_H : Hints := [(3, [3, 8, 9, 10]), (7, [3, 6, 8, 9, 10, 16]), (2000000, [3]), (2000001, [3, 8, 9, 10]), (2000002, [3, 8, 9, 10]), (2000003, [3, 6, 8, 9, 10, 16]), (3000000, [2])]
noncomputable def p_ref01_Bits_c : Code := (Go.Proofs.Try.f50).body.getD .skip
noncomputable def p_ref01_Bits_l7_S : Shape where
  h := { tmps := [.any, .any, .any, .sc (.vec 0 none 1), .any, .any, .sc (.int .i64), .any, .sc (.vec 1 none 1), .sc (.int .i64), .sc (.int .i64), .any, .any, .any, .any, .any, .sc (.int .i64), .any, .any, .any, .any, .any, .any, .any, .any, .any, .any, .any, .any], mem := [.live [.xs .bool none] true, .live [.xs (.int .u8) none] false] }
  ks := [.nat, .int, .nat, .int, .int, .int, .nat, .xs, .nat, .xs]
  st := fun x => { tmps := [.one .any, .one .any, .one .any, .one (.sc (.vec 0 x.1 1)), .one .any, .one .any, .one (.sc (.int .i64 x.2.1)), .one .any, .one (.sc (.vec 1 x.2.2.1 1)), .one (.sc (.int .i64 x.2.2.2.1)), .one (.sc (.int .i64 x.2.2.2.2.1)), .one .any, .one .any, .one .any, .one .any, .one .any, .one (.sc (.int .i64 x.2.2.2.2.2.1)), .one .any, .one .any, .one .any, .one .any, .one .any, .one .any, .one .any, .one .any, .one .any, .one .any, .one .any, .one .any], mem := [.live { segs := [.xs .bool x.2.2.2.2.2.2.1 x.2.2.2.2.2.2.2.1], own := true }, .live { segs := [.xs (.int .u8) x.2.2.2.2.2.2.2.2.1 x.2.2.2.2.2.2.2.2.2.1], own := false }] }
noncomputable def p_ref01_Bits_l7_F (N : Nat) (β : Type) (x : (Nat × Int × Nat × Int × Int × Int × Nat × List Int × Nat × List Int × Unit)) (kn : (Nat × Int × Nat × Int × Int × Int × Nat × List Int × Nat × List Int × Unit) → Option β) (ke : ((Nat × Nat × Int × Int × Nat × List Int × Nat × List Int × Unit)) → Option β) : Option β :=
  if (x.2.2.2.2.2.1 < (8:Int)) then
    if (x.1 + 1) * 1 ≤ 140737488355328 then (
    kn ((x.1 + 1), (IntKind.i64.wrap (Int.tdiv x.2.1 (2:Int))), x.2.2.1, x.2.2.2.1, x.2.2.2.2.1, (IntKind.i64.wrap (x.2.2.2.2.2.1 + (1:Int))), (x.2.2.2.2.2.2.1 + 1), (x.2.2.2.2.2.2.2.1 ++ (List.set (List.replicate 1 0) 0 (if ((Int.tmod x.2.1 (2:Int)) = (1:Int)) then (1:Int) else 0))), x.2.2.2.2.2.2.2.2.1, x.2.2.2.2.2.2.2.2.2.1, ())) else none
  else
    ke (x.1, x.2.2.1, x.2.2.2.1, x.2.2.2.2.1, x.2.2.2.2.2.2.1, x.2.2.2.2.2.2.2.1, x.2.2.2.2.2.2.2.2.1, x.2.2.2.2.2.2.2.2.2.1, ())
noncomputable def p_ref01_Bits_l7_go : Go' ((Nat × Nat × Int × Int × Nat × List Int × Nat × List Int × Unit)) := fun y K => K (.exit 2) { tmps := [.one .any, .one .any, .one .any, .one (.sc (.vec 0 y.1 1)), .one .any, .one .any, .one .any, .one .any, .one (.sc (.vec 1 y.2.1 1)), .one (.sc (.int .i64 y.2.2.1)), .one (.sc (.int .i64 y.2.2.2.1)), .one .any, .one .any, .one .any, .one .any, .one .any, .one .any, .one .any, .one .any, .one .any, .one .any, .one .any, .one .any, .one .any, .one .any, .one .any, .one .any, .one .any, .one .any], mem := [.live { segs := [.xs .bool y.2.2.2.2.1 y.2.2.2.2.2.1], own := true }, .live { segs := [.xs (.int .u8) y.2.2.2.2.2.2.1 y.2.2.2.2.2.2.2.1], own := false }] }
noncomputable def p_ref01_Bits_l7_L (N : Nat) : LT := upd (LT.nil) 7 (loopE p_ref01_Bits_l7_S N (p_ref01_Bits_l7_F N) p_ref01_Bits_l7_go)
theorem p_ref01_Bits_l7_ok (N : Nat) : OkAll p_ref01_Bits_E p_ref01_Bits_H N (p_ref01_Bits_l7_L N) (subs p_ref01_Bits_c) :=
  addLoop (c := theLoop 7 p_ref01_Bits_c) (OkAll.nil) (by kernel_rfl) (fun x => by kernel_rfl) (fun β x kn ke => by kernel_rfl)
noncomputable def p_ref01_Bits_l3_S : Shape where
  h := { tmps := [.any, .any, .any, .sc (.vec 0 none 1), .any, .any, .any, .any, .sc (.vec 1 none 1), .sc (.int .i64), .sc (.int .i64), .any, .any, .any, .any, .any, .any, .any, .any, .any, .any, .any, .any, .any, .any, .any, .any, .any, .any], mem := [.live [.xs .bool none] true, .live [.xs (.int .u8) none] false] }
  ks := [.nat, .nat, .int, .int, .nat, .xs, .nat, .xs]
  st := fun x => { tmps := [.one .any, .one .any, .one .any, .one (.sc (.vec 0 x.1 1)), .one .any, .one .any, .one .any, .one .any, .one (.sc (.vec 1 x.2.1 1)), .one (.sc (.int .i64 x.2.2.1)), .one (.sc (.int .i64 x.2.2.2.1)), .one .any, .one .any, .one .any, .one .any, .one .any, .one .any, .one .any, .one .any, .one .any, .one .any, .one .any, .one .any, .one .any, .one .any, .one .any, .one .any, .one .any, .one .any], mem := [.live { segs := [.xs .bool x.2.2.2.2.1 x.2.2.2.2.2.1], own := true }, .live { segs := [.xs (.int .u8) x.2.2.2.2.2.2.1 x.2.2.2.2.2.2.2.1], own := false }] }
noncomputable def p_ref01_Bits_l3_F (N : Nat) (β : Type) (x : (Nat × Nat × Int × Int × Nat × List Int × Nat × List Int × Unit)) (kn : (Nat × Nat × Int × Int × Nat × List Int × Nat × List Int × Unit) → Option β) (ke : ((Nat × Nat × List Int × Unit)) → Option β) : Option β :=
  if (x.2.2.2.1 < x.2.2.1) then
    if 0 ≤ x.2.2.2.1 then (
    if x.2.2.2.1 < ((x.2.1 : Nat) : Int) then (
    if (x.2.2.2.1.toNat) < x.2.2.2.2.2.2.1 then (
    iter (p_ref01_Bits_l7_F N) N (x.1, (IntKind.i64.wrap (List.getD x.2.2.2.2.2.2.2.1 (x.2.2.2.1.toNat) 0)), x.2.1, x.2.2.1, x.2.2.2.1, (0:Int), x.2.2.2.2.1, x.2.2.2.2.2.1, x.2.2.2.2.2.2.1, x.2.2.2.2.2.2.2.1, ()) fun y1 => (
    kn (y1.1, y1.2.1, y1.2.2.1, (IntKind.i64.wrap (y1.2.2.2.1 + (1:Int))), y1.2.2.2.2.1, y1.2.2.2.2.2.1, y1.2.2.2.2.2.2.1, y1.2.2.2.2.2.2.2.1, ()))) else none) else none) else none
  else
    ke (x.1, x.2.2.2.2.1, x.2.2.2.2.2.1, ())
noncomputable def p_ref01_Bits_l3_go : Go' ((Nat × Nat × List Int × Unit)) := fun y K => K (.exit 0) { tmps := [.one .any, .one .any, .one .any, .one (.sc (.vec 0 y.1 1)), .one .any, .one .any, .one .any, .one .any, .one .any, .one .any, .one .any, .one .any, .one .any, .one .any, .one .any, .one .any, .one .any, .one .any, .one .any, .one .any, .one .any, .one .any, .one .any, .one .any, .one .any, .one .any, .one .any, .one .any, .one .any], mem := [.live { segs := [.xs .bool y.2.1 y.2.2.1], own := true }] }
noncomputable def p_ref01_Bits_l3_L (N : Nat) : LT := upd (p_ref01_Bits_l7_L N) 3 (loopE p_ref01_Bits_l3_S N (p_ref01_Bits_l3_F N) p_ref01_Bits_l3_go)
theorem p_ref01_Bits_l3_ok (N : Nat) : OkAll p_ref01_Bits_E p_ref01_Bits_H N (p_ref01_Bits_l3_L N) (subs p_ref01_Bits_c) :=
  addLoop (c := theLoop 3 p_ref01_Bits_c) (p_ref01_Bits_l7_ok N) (by kernel_rfl) (fun x => by kernel_rfl) (fun β x kn ke => by kernel_rfl)
abbrev p_ref01_Bits_ks : List Kd := [.sl (.int .u8)]
abbrev p_ref01_Bits_rs : List Kd := [.sl .bool]
noncomputable def p_ref01_Bits (N : Nat) (x : List Int × Unit) : Option (List Int) :=
  iter (p_ref01_Bits_l3_F N) N (0, (List.length x.1), (((List.length x.1) : Nat) : Int), (0:Int), 0, (List.replicate 0 0), (List.length x.1), x.1, ()) fun y2 => (
  some y2.2.2.1)
theorem p_ref01_Bits_eq (N : Nat) (x : Ds [.sl (.int .u8)]) : funL p_ref01_Bits_E p_ref01_Bits_H (p_ref01_Bits_l3_L N) N Go.Proofs.Try.f50 p_ref01_Bits_c [.sl (.int .u8)] [.sl .bool] x = p_ref01_Bits N x := by kernel_rfl
theorem p_ref01_Bits_Eok : p_ref01_Bits_E.Ok Go.Proofs.Try.prog := AE.of_ok (all_cons ty3_ok (all_cons ty4_ok (all_cons ty5_ok (all_cons ty34_ok (all_cons ty52_ok all_nil))))) all_nil
theorem p_ref01_Bits_ok {g : Ds [.sl (.int .u8)] → Option (Rs [.sl .bool])} (hg : ∀ x r, g x = some r → ∃ N, p_ref01_Bits N x = some r) : SigOk Go.Proofs.Try.prog 50 ⟨[.sl (.int .u8)], [.sl .bool], g⟩ :=
  fun_of (E := p_ref01_Bits_E) (H := p_ref01_Bits_H) (L := fun N => p_ref01_Bits_l3_L N) (c := p_ref01_Bits_c) (ks := p_ref01_Bits_ks) (rs := p_ref01_Bits_rs) (F := p_ref01_Bits) (p_ref01_Bits_Eok) mix Go.Proofs.Try.func50 (by kernel_rfl) (fun N => p_ref01_Bits_l3_ok N) p_ref01_Bits_eq hg

/-! livery/liveryref01.FromBits -/
noncomputable def p_ref01_FromBits_E : AE := AE.of [(3, ty3), (4, ty4), (5, ty5), (34, ty34), (52, ty52)] []
noncomputable def p_ref01_FromBits_H : Hints := [(3, [0, 3, 4]), (7, [0, 3, 4, 5, 6, 7]), (2000000, [3]), (2000001, [0, 3, 4]), (2000002, [0, 3, 4, 5]), (2000003, [0, 3, 4, 5, 6, 7]), (3000000, [2])]
noncomputable def p_ref01_FromBits_c : Code := (Go.Proofs.Try.f52).body.getD .skip
noncomputable def p_ref01_FromBits_l7_S : Shape where
  h := { tmps := [.sc (.vec 0 none 1), .any, .any, .sc (.vec 1 none 1), .sc (.int .i64), .sc (.int .i64), .sc (.int .i64), .sc (.int .i64), .any, .any, .any, .any, .any, .any, .any, .any, .any, .any, .any, .any, .any, .any, .any, .any, .any, .any, .any, .any, .any, .any, .any, .any, .any, .any, .any, .any, .any, .any, .any, .any, .any, .any, .any], mem := [.live [.xs .bool none] false, .live [.xs (.int .u8) none] true] }
  ks := [.nat, .nat, .int, .int, .int, .int, .nat, .xs, .nat, .xs]
  st := fun x => { tmps := [.one (.sc (.vec 0 x.1 1)), .one .any, .one .any, .one (.sc (.vec 1 x.2.1 1)), .one (.sc (.int .i64 x.2.2.1)), .one (.sc (.int .i64 x.2.2.2.1)), .one (.sc (.int .i64 x.2.2.2.2.1)), .one (.sc (.int .i64 x.2.2.2.2.2.1)), .one .any, .one .any, .one .any, .one .any, .one .any, .one .any, .one .any, .one .any, .one .any, .one .any, .one .any, .one .any, .one .any, .one .any, .one .any, .one .any, .one .any, .one .any, .one .any, .one .any, .one .any, .one .any, .one .any, .one .any, .one .any, .one .any, .one .any, .one .any, .one .any, .one .any, .one .any, .one .any, .one .any, .one .any, .one .any], mem := [.live { segs := [.xs .bool x.2.2.2.2.2.2.1 x.2.2.2.2.2.2.2.1], own := false }, .live { segs := [.xs (.int .u8) x.2.2.2.2.2.2.2.2.1 x.2.2.2.2.2.2.2.2.2.1], own := true }] }
noncomputable def p_ref01_FromBits_l7_F (N : Nat) (β : Type) (x : (Nat × Nat × Int × Int × Int × Int × Nat × List Int × Nat × List Int × Unit)) (kn : (Nat × Nat × Int × Int × Int × Int × Nat × List Int × Nat × List Int × Unit) → Option β) (ke : ((Nat × Nat × Int × Int × Nat × List Int × Nat × List Int × Unit)) → Option β) : Option β :=
  if (x.2.2.2.2.2.1 < (IntKind.i64.wrap (x.2.2.1 + (8:Int)))) then
    if (x.2.2.2.2.2.1 < ((x.1 : Nat) : Int)) then
      if 0 ≤ x.2.2.2.2.2.1 then (
      if x.2.2.2.2.2.1 < ((x.1 : Nat) : Int) then (
      if (x.2.2.2.2.2.1.toNat) < x.2.2.2.2.2.2.1 then (
      if ((List.getD x.2.2.2.2.2.2.2.1 (x.2.2.2.2.2.1.toNat) 0) ≠ 0) then
        kn (x.1, x.2.1, x.2.2.1, (IntKind.i64.wrap (x.2.2.2.1 + x.2.2.2.2.1)), (IntKind.i64.wrap (x.2.2.2.2.1 * (2:Int))), (IntKind.i64.wrap (x.2.2.2.2.2.1 + (1:Int))), x.2.2.2.2.2.2.1, x.2.2.2.2.2.2.2.1, x.2.2.2.2.2.2.2.2.1, x.2.2.2.2.2.2.2.2.2.1, ())
      else
        kn (x.1, x.2.1, x.2.2.1, x.2.2.2.1, (IntKind.i64.wrap (x.2.2.2.2.1 * (2:Int))), (IntKind.i64.wrap (x.2.2.2.2.2.1 + (1:Int))), x.2.2.2.2.2.2.1, x.2.2.2.2.2.2.2.1, x.2.2.2.2.2.2.2.2.1, x.2.2.2.2.2.2.2.2.2.1, ())) else none) else none) else none
    else
      ke (x.1, x.2.1, x.2.2.1, x.2.2.2.1, x.2.2.2.2.2.2.1, x.2.2.2.2.2.2.2.1, x.2.2.2.2.2.2.2.2.1, x.2.2.2.2.2.2.2.2.2.1, ())
  else
    ke (x.1, x.2.1, x.2.2.1, x.2.2.2.1, x.2.2.2.2.2.2.1, x.2.2.2.2.2.2.2.1, x.2.2.2.2.2.2.2.2.1, x.2.2.2.2.2.2.2.2.2.1, ())
noncomputable def p_ref01_FromBits_l7_go : Go' ((Nat × Nat × Int × Int × Nat × List Int × Nat × List Int × Unit)) := fun y K => K (.exit 2) { tmps := [.one (.sc (.vec 0 y.1 1)), .one .any, .one .any, .one (.sc (.vec 1 y.2.1 1)), .one (.sc (.int .i64 y.2.2.1)), .one (.sc (.int .i64 y.2.2.2.1)), .one .any, .one .any, .one .any, .one .any, .one .any, .one .any, .one .any, .one .any, .one .any, .one .any, .one .any, .one .any, .one .any, .one .any, .one .any, .one .any, .one .any, .one .any, .one .any, .one .any, .one .any, .one .any, .one .any, .one .any, .one .any, .one .any, .one .any, .one .any, .one .any, .one .any, .one .any, .one .any, .one .any, .one .any, .one .any, .one .any, .one .any], mem := [.live { segs := [.xs .bool y.2.2.2.2.1 y.2.2.2.2.2.1], own := false }, .live { segs := [.xs (.int .u8) y.2.2.2.2.2.2.1 y.2.2.2.2.2.2.2.1], own := true }] }
noncomputable def p_ref01_FromBits_l7_L (N : Nat) : LT := upd (LT.nil) 7 (loopE p_ref01_FromBits_l7_S N (p_ref01_FromBits_l7_F N) p_ref01_FromBits_l7_go)
theorem p_ref01_FromBits_l7_ok (N : Nat) : OkAll p_ref01_FromBits_E p_ref01_FromBits_H N (p_ref01_FromBits_l7_L N) (subs p_ref01_FromBits_c) :=
  addLoop (c := theLoop 7 p_ref01_FromBits_c) (OkAll.nil) (by kernel_rfl) (fun x => by kernel_rfl) (fun β x kn ke => by kernel_rfl)
noncomputable def p_ref01_FromBits_l3_S : Shape where
  h := { tmps := [.sc (.vec 0 none 1), .any, .any, .sc (.vec 1 none 1), .sc (.int .i64), .any, .any, .any, .any, .any, .any, .any, .any, .any, .any, .any, .any, .any, .any, .any, .any, .any, .any, .any, .any, .any, .any, .any, .any, .any, .any, .any, .any, .any, .any, .any, .any, .any, .any, .any, .any, .any, .any], mem := [.live [.xs .bool none] false, .live [.xs (.int .u8) none] true] }
  ks := [.nat, .nat, .int, .nat, .xs, .nat, .xs]
  st := fun x => { tmps := [.one (.sc (.vec 0 x.1 1)), .one .any, .one .any, .one (.sc (.vec 1 x.2.1 1)), .one (.sc (.int .i64 x.2.2.1)), .one .any, .one .any, .one .any, .one .any, .one .any, .one .any, .one .any, .one .any, .one .any, .one .any, .one .any, .one .any, .one .any, .one .any, .one .any, .one .any, .one .any, .one .any, .one .any, .one .any, .one .any, .one .any, .one .any, .one .any, .one .any, .one .any, .one .any, .one .any, .one .any, .one .any, .one .any, .one .any, .one .any, .one .any, .one .any, .one .any, .one .any, .one .any], mem := [.live { segs := [.xs .bool x.2.2.2.1 x.2.2.2.2.1], own := false }, .live { segs := [.xs (.int .u8) x.2.2.2.2.2.1 x.2.2.2.2.2.2.1], own := true }] }
noncomputable def p_ref01_FromBits_l3_F (N : Nat) (β : Type) (x : (Nat × Nat × Int × Nat × List Int × Nat × List Int × Unit)) (kn : (Nat × Nat × Int × Nat × List Int × Nat × List Int × Unit) → Option β) (ke : ((Nat × Nat × List Int × Unit)) → Option β) : Option β :=
  if (x.2.2.1 < ((x.1 : Nat) : Int)) then
    iter (p_ref01_FromBits_l7_F N) N (x.1, x.2.1, x.2.2.1, (0:Int), (1:Int), x.2.2.1, x.2.2.2.1, x.2.2.2.2.1, x.2.2.2.2.2.1, x.2.2.2.2.2.2.1, ()) fun y1 => (
    if (y1.2.1 + 1) * 1 ≤ 140737488355328 then (
    kn (y1.1, (y1.2.1 + 1), (IntKind.i64.wrap (y1.2.2.1 + (8:Int))), y1.2.2.2.2.1, y1.2.2.2.2.2.1, (y1.2.2.2.2.2.2.1 + 1), (y1.2.2.2.2.2.2.2.1 ++ (List.set (List.replicate 1 0) 0 (IntKind.u8.wrap y1.2.2.2.1))), ())) else none)
  else
    ke (x.2.1, x.2.2.2.2.2.1, x.2.2.2.2.2.2.1, ())
noncomputable def p_ref01_FromBits_l3_go : Go' ((Nat × Nat × List Int × Unit)) := fun y K => K (.exit 0) { tmps := [.one .any, .one .any, .one .any, .one (.sc (.vec 0 y.1 1)), .one .any, .one .any, .one .any, .one .any, .one .any, .one .any, .one .any, .one .any, .one .any, .one .any, .one .any, .one .any, .one .any, .one .any, .one .any, .one .any, .one .any, .one .any, .one .any, .one .any, .one .any, .one .any, .one .any, .one .any, .one .any, .one .any, .one .any, .one .any, .one .any, .one .any, .one .any, .one .any, .one .any, .one .any, .one .any, .one .any, .one .any, .one .any, .one .any], mem := [.live { segs := [.xs (.int .u8) y.2.1 y.2.2.1], own := true }] }
noncomputable def p_ref01_FromBits_l3_L (N : Nat) : LT := upd (p_ref01_FromBits_l7_L N) 3 (loopE p_ref01_FromBits_l3_S N (p_ref01_FromBits_l3_F N) p_ref01_FromBits_l3_go)
theorem p_ref01_FromBits_l3_ok (N : Nat) : OkAll p_ref01_FromBits_E p_ref01_FromBits_H N (p_ref01_FromBits_l3_L N) (subs p_ref01_FromBits_c) :=
  addLoop (c := theLoop 3 p_ref01_FromBits_c) (p_ref01_FromBits_l7_ok N) (by kernel_rfl) (fun x => by kernel_rfl) (fun β x kn ke => by kernel_rfl)
abbrev p_ref01_FromBits_ks : List Kd := [.sl .bool]
abbrev p_ref01_FromBits_rs : List Kd := [.sl (.int .u8)]
noncomputable def p_ref01_FromBits (N : Nat) (x : List Int × Unit) : Option (List Int) :=
  iter (p_ref01_FromBits_l3_F N) N ((List.length x.1), 0, (0:Int), (List.length x.1), x.1, 0, (List.replicate 0 0), ()) fun y2 => (
  some y2.2.2.1)
theorem p_ref01_FromBits_eq (N : Nat) (x : Ds [.sl .bool]) : funL p_ref01_FromBits_E p_ref01_FromBits_H (p_ref01_FromBits_l3_L N) N Go.Proofs.Try.f52 p_ref01_FromBits_c [.sl .bool] [.sl (.int .u8)] x = p_ref01_FromBits N x := by kernel_rfl
theorem p_ref01_FromBits_Eok : p_ref01_FromBits_E.Ok Go.Proofs.Try.prog := AE.of_ok (all_cons ty3_ok (all_cons ty4_ok (all_cons ty5_ok (all_cons ty34_ok (all_cons ty52_ok all_nil))))) all_nil
theorem p_ref01_FromBits_ok {g : Ds [.sl .bool] → Option (Rs [.sl (.int .u8)])} (hg : ∀ x r, g x = some r → ∃ N, p_ref01_FromBits N x = some r) : SigOk Go.Proofs.Try.prog 52 ⟨[.sl .bool], [.sl (.int .u8)], g⟩ :=
  fun_of (E := p_ref01_FromBits_E) (H := p_ref01_FromBits_H) (L := fun N => p_ref01_FromBits_l3_L N) (c := p_ref01_FromBits_c) (ks := p_ref01_FromBits_ks) (rs := p_ref01_FromBits_rs) (F := p_ref01_FromBits) (p_ref01_FromBits_Eok) mix Go.Proofs.Try.func52 (by kernel_rfl) (fun N => p_ref01_FromBits_l3_ok N) p_ref01_FromBits_eq hg

/-! livery/liveryref01.Equal -/
noncomputable def p_ref01_Equal_E : AE := AE.of [(5, ty5), (9, ty9), (34, ty34)] []
noncomputable def p_ref01_Equal_H : Hints := [(3000000, [4])]
noncomputable def p_ref01_Equal_c : Code := (Go.Proofs.Try.f34).body.getD .skip
abbrev p_ref01_Equal_ks : List Kd := [.sl (.int .u8), .sl (.int .u8)]
abbrev p_ref01_Equal_rs : List Kd := [.bool]
noncomputable def p_ref01_Equal (N : Nat) (x : List Int × List Int × Unit) : Option (Bool) :=
  some (decide ((strOfNums x.1) = (strOfNums x.2.1)))
theorem p_ref01_Equal_eq (N : Nat) (x : Ds [.sl (.int .u8), .sl (.int .u8)]) : funL p_ref01_Equal_E p_ref01_Equal_H (LT.nil) N Go.Proofs.Try.f34 p_ref01_Equal_c [.sl (.int .u8), .sl (.int .u8)] [.bool] x = p_ref01_Equal N x := by kernel_rfl
theorem p_ref01_Equal_Eok : p_ref01_Equal_E.Ok Go.Proofs.Try.prog := AE.of_ok (all_cons ty5_ok (all_cons ty9_ok (all_cons ty34_ok all_nil))) all_nil
theorem p_ref01_Equal_ok {g : Ds [.sl (.int .u8), .sl (.int .u8)] → Option (Rs [.bool])} (hg : ∀ x r, g x = some r → ∃ N, p_ref01_Equal N x = some r) : SigOk Go.Proofs.Try.prog 34 ⟨[.sl (.int .u8), .sl (.int .u8)], [.bool], g⟩ :=
  fun_of (E := p_ref01_Equal_E) (H := p_ref01_Equal_H) (L := fun N => LT.nil) (c := p_ref01_Equal_c) (ks := p_ref01_Equal_ks) (rs := p_ref01_Equal_rs) (F := p_ref01_Equal) (p_ref01_Equal_Eok) mix Go.Proofs.Try.func34 (by kernel_rfl) (fun N => OkAll.nil) p_ref01_Equal_eq hg
end Go.Ax.TryP
/-! ### Octets: the printed functions -/
namespace Go.Ax.TryP

theorem wf_b1 {b : List Int} : wfAll [.sl (.int .u8)] (b, ()) ↔ b.length ≤ maxLen ∧ ∀ z ∈ b, 0 ≤ z ∧ z ≤ 255 := by simp only [wfAll, wf_bytes, and_true]
theorem wf_b2 {a b : List Int} : wfAll [.sl (.int .u8), .sl (.int .u8)] (a, b, ()) ↔ (a.length ≤ maxLen ∧ ∀ z ∈ a, 0 ≤ z ∧ z ≤ 255) ∧ b.length ≤ maxLen ∧ ∀ z ∈ b, 0 ≤ z ∧ z ≤ 255 := by simp only [wfAll, wf_bytes, and_true]
theorem byte_at {b : List Int} (h : ∀ z ∈ b, 0 ≤ z ∧ z ≤ 255) (i : Nat) : 0 ≤ b.getD i 0 ∧ b.getD i 0 ≤ 255 := by
  by_cases hi : i < b.length
  · exact h _ (getD_mem hi)
  · rw [getD_out (by omega)]; omega
theorem one_set (v : Int) : (List.replicate 1 (0 : Int)).set 0 v = [v] := rfl
theorem bool_at {l : List Int} (h : ∀ z ∈ l, z = 0 ∨ z = 1) (i : Nat) : l.getD i 0 = 0 ∨ l.getD i 0 = 1 := by
  by_cases hi : i < l.length
  · exact h _ (getD_mem hi)
  · rw [getD_out (by omega)]; exact .inl rfl

theorem q_ref01_Bits : ∀ x r, g_ref01_Bits x = some r → ∃ N, p_ref01_Bits N x = some r := by
  refine Spec_of (ks := p_ref01_Bits_ks) (rs := p_ref01_Bits_rs) fun x hw hq => ⟨x.1.length + 10, ?_⟩
  obtain ⟨(b : List Int), u⟩ := x
  have hq : b.length ≤ 1000000 := hq
  obtain ⟨_, hb⟩ := wf_b1.1 hw
  unfold p_ref01_Bits
  refine (iter_run (s := fun i => (8 * i, b.length, (b.length : Int), (i : Int), 8 * i, (List.range (8 * i)).map (bitAt b), b.length, b, ())) (y := (8 * b.length, 8 * b.length, bitsOf b, ())) b.length ?_ ?_ _ (by simp only; omega)).trans ?_
  · intro i hi kn
    have g1 : (i : Int) < (b.length : Int) := by omega
    have g0 : (0 : Int) ≤ i := by omega
    have hz := byte_at hb i
    unfold p_ref01_Bits_l3_F
    simp only [g1, g0, hi, if_true, Int.toNat_natCast]
    rw [wrap_i64 (x := b.getD i 0) (by omega) (by omega)]
    have e0 : b.getD i 0 / 2 ^ 0 = b.getD i 0 := by rw [Int.pow_zero, Int.ediv_one]
    rw [← e0]
    refine (iter_run (s := fun r => (8 * i + r, b.getD i 0 / 2 ^ r, b.length, (b.length : Int), (i : Int), (r : Int), 8 * i + r, (List.range (8 * i + r)).map (bitAt b), b.length, b, ())) (y := (8 * i + 8, b.length, (b.length : Int), (i : Int), 8 * i + 8, (List.range (8 * i + 8)).map (bitAt b), b.length, b, ())) 8 ?_ ?_ (b.length + 10) (by omega)).trans ?_
    · intro r hr kn
      have hp : (0 : Int) < 2 ^ r := pow2_pos r
      have h1 : 0 ≤ b.getD i 0 / 2 ^ r := Int.ediv_nonneg hz.1 (Int.le_of_lt hp)
      have h2 : b.getD i 0 / 2 ^ r ≤ b.getD i 0 := Int.ediv_le_self _ hz.1
      have e1 : b.getD i 0 / 2 ^ r / 2 = b.getD i 0 / 2 ^ (r + 1) := by rw [Int.ediv_ediv_of_nonneg (Int.le_of_lt hp), Int.pow_succ]
      have e2 : (if b.getD i 0 / 2 ^ r % 2 = 1 then (1 : Int) else 0) = bitAt b (8 * i + r) := by
        unfold bitAt bitI
        rw [show (8 * i + r) / 8 = i by omega, show (8 * i + r) % 8 = r by omega]
        split <;> omega
      unfold p_ref01_Bits_l7_F
      simp (disch := omega) only [if_pos, wrap_i64, tmod_pos, tdiv_pos, one_set, e1, e2, map_range_succ]
      rw [Int.natCast_add, show 8 * i + r + 1 = 8 * i + (r + 1) by omega]
      rfl
    · intro kn
      unfold p_ref01_Bits_l7_F
      simp (disch := omega) only [if_neg]
    · simp (disch := omega) only [wrap_i64]
      rw [Int.natCast_add, show 8 * i + 8 = 8 * (i + 1) by omega]
      rfl
  · intro kn
    unfold p_ref01_Bits_l3_F
    simp (disch := omega) only [if_neg]
    rfl
  · rfl

theorem q_ref01_FromBits : ∀ x r, g_ref01_FromBits x = some r → ∃ N, p_ref01_FromBits N x = some r := by
  refine Spec_of (ks := p_ref01_FromBits_ks) (rs := p_ref01_FromBits_rs) fun x hw hq => ⟨x.1.length + 20, ?_⟩
  obtain ⟨(l : List Int), u⟩ := x
  have hq : l.length ≤ 1000000 := hq
  obtain ⟨⟨_, hl⟩, _⟩ := hw
  have hl : ∀ z ∈ l, z = 0 ∨ z = 1 := hl
  unfold p_ref01_FromBits
  refine (iter_run (s := fun i => (l.length, i, ((8 * i : Nat) : Int), l.length, l, i, fBytes (fun t => l.getD t 0) i, ())) (y := ((l.length + 7) / 8, (l.length + 7) / 8, fBytes (fun t => l.getD t 0) ((l.length + 7) / 8), ())) ((l.length + 7) / 8) ?_ ?_ _ (by simp only; omega)).trans ?_
  · intro i hi kn
    have g1 : ((8 * i : Nat) : Int) < (l.length : Int) := by omega
    unfold p_ref01_FromBits_l3_F
    simp only [g1, if_true]
    have hfin : ∀ r, r ≤ 8 → (r = 8 ∨ l.length ≤ 8 * i + r) → sumB r (fun s => l.getD (8 * i + s) 0) = sumB 8 fun s => l.getD (8 * i + s) 0 := by
      intro r hr h
      rw [← sumB_cut (c := fun s => l.getD (8 * i + s) 0) hr]
      refine sumB_congr fun s hs => ?_
      by_cases h2 : s < r
      · rw [if_pos h2]
      · rw [if_neg h2, getD_out (by omega)]
    have hm : min 8 (l.length - 8 * i) ≤ 8 := Nat.min_le_left _ _
    refine (iter_run (s := fun r => (l.length, i, ((8 * i : Nat) : Int), sumB r (fun s => l.getD (8 * i + s) 0), (2 : Int) ^ r, ((8 * i + r : Nat) : Int), l.length, l, i, fBytes (fun t => l.getD t 0) i, ()))
      (y := (l.length, i, ((8 * i : Nat) : Int), sumB 8 (fun s => l.getD (8 * i + s) 0), l.length, l, i, fBytes (fun t => l.getD t 0) i, ())) (min 8 (l.length - 8 * i)) ?_ ?_ (l.length + 20) (by omega)).trans ?_
    · intro r hr kn
      have hr8 : r < 8 := by omega
      have hrl : 8 * i + r < l.length := by omega
      have g2 : ((8 * i + r : Nat) : Int) < (l.length : Int) := by omega
      have g3 : (0 : Int) ≤ ((8 * i + r : Nat) : Int) := by omega
      have hb := sumB_b (n := r) (c := fun s => l.getD (8 * i + s) 0) fun s _ => by rcases bool_at hl (8 * i + s) with h | h <;> omega
      have hp : (0 : Int) < 2 ^ r := pow2_pos r
      have hp8 : (2 : Int) ^ r ≤ 128 := (by decide : ∀ r, r < 8 → (2 : Int) ^ r ≤ 128) r hr8
      unfold p_ref01_FromBits_l7_F
      simp (disch := omega) only [wrap_i64]
      rw [if_pos (by omega), if_pos g2, if_pos g3, if_pos g2, if_pos (by rw [Int.toNat_natCast]; exact hrl), Int.toNat_natCast]
      have ek : (2 : Int) ^ r * 2 = 2 ^ (r + 1) := (Int.pow_succ 2 r).symm
      rcases bool_at hl (8 * i + r) with h | h
      · rw [if_neg (by omega), ek]
        have : sumB (r + 1) (fun s => l.getD (8 * i + s) 0) = sumB r fun s => l.getD (8 * i + s) 0 := by
          simp only [sumB]; rw [h]; omega
        rw [this, show ((8 * i + r : Nat) : Int) + 1 = ((8 * i + (r + 1) : Nat) : Int) by omega]
      · rw [if_pos (by omega), ek]
        have : sumB (r + 1) (fun s => l.getD (8 * i + s) 0) = sumB r (fun s => l.getD (8 * i + s) 0) + 2 ^ r := by
          simp only [sumB]; rw [h]; omega
        rw [this, show ((8 * i + r : Nat) : Int) + 1 = ((8 * i + (r + 1) : Nat) : Int) by omega]
    · intro kn
      have hf := hfin (min 8 (l.length - 8 * i)) hm (by omega)
      unfold p_ref01_FromBits_l7_F
      simp (disch := omega) only [wrap_i64]
      by_cases h8 : min 8 (l.length - 8 * i) = 8
      · rw [if_neg (by omega), hf]
      · rw [if_pos (by omega), if_neg (by omega), hf]
    · have hb := sumB_b (n := 8) (c := fun s => l.getD (8 * i + s) 0) fun s _ => by rcases bool_at hl (8 * i + s) with h | h <;> omega
      have e8 : (2 : Int) ^ 8 = 256 := rfl
      simp (disch := omega) only [if_pos, wrap_i64, wrap_u8, one_set]
      unfold fBytes
      rw [map_range_succ (fun j => sumB 8 fun s => l.getD (8 * j + s) 0), show ((8 * i : Nat) : Int) + 8 = ((8 * (i + 1) : Nat) : Int) by omega]
  · intro kn
    unfold p_ref01_FromBits_l3_F
    simp (disch := omega) only [if_neg]
  · rfl

theorem q_ref01_Equal : ∀ x r, g_ref01_Equal x = some r → ∃ N, p_ref01_Equal N x = some r := by
  refine Spec_of (ks := p_ref01_Equal_ks) (rs := p_ref01_Equal_rs) fun x hw _ => ⟨0, ?_⟩
  obtain ⟨(a : List Int), (b : List Int), u⟩ := x
  obtain ⟨⟨_, ha⟩, _, hb⟩ := wf_b2.1 hw
  unfold p_ref01_Equal
  rw [eq_of_bytes ha hb]
theorem at_Bits {b : List Int} (h : b.length ≤ 1000000) (hb : ∀ z ∈ b, 0 ≤ z ∧ z ≤ 255) : g_ref01_Bits (b, ()) = some (bitsOf b) :=
  Spec_at (ks := p_ref01_Bits_ks) (rs := p_ref01_Bits_rs) (x := (b, ())) (wf_b1.2 ⟨Nat.le_trans h (by decide), hb⟩) h
theorem at_FromBits {l : List Int} (h : l.length ≤ 1000000) (hl : ∀ z ∈ l, z = 0 ∨ z = 1) : g_ref01_FromBits (l, ()) = some (fBytes (fun t => l.getD t 0) ((l.length + 7) / 8)) :=
  Spec_at (ks := p_ref01_FromBits_ks) (rs := p_ref01_FromBits_rs) (x := (l, ())) ⟨⟨Nat.le_trans h (by decide), hl⟩, trivial⟩ h
theorem at_Equal {a b : List Int} (ha : a.length ≤ maxLen) (ha' : ∀ z ∈ a, 0 ≤ z ∧ z ≤ 255) (hb : b.length ≤ maxLen) (hb' : ∀ z ∈ b, 0 ≤ z ∧ z ≤ 255) : g_ref01_Equal (a, b, ()) = some (decide (a = b)) :=
  Spec_at (ks := p_ref01_Equal_ks) (rs := p_ref01_Equal_rs) (x := (a, b, ())) (wf_b2.2 ⟨⟨ha, ha'⟩, hb, hb'⟩) trivial
end Go.Ax.TryP
/-! ### Octets' numbers: what the functions compute -/
namespace Go.Ax.TryP
def cbd (e : Nat) (b : List Int) (i : Nat) : Int := (3329 + sum e fun k => bitAt b (2 * e * i + k) - bitAt b (2 * e * i + e + k)) % 3329
def fCbd (e : Int) (b : List Int) : List Int × Int := if (e = 2 ∨ e = 3) ∧ (b.length : Int) = 64 * e then (poly (cbd e.toNat b), 0) else (zeros, 1)
noncomputable def g_ring_Cbd_1 : Int × List Int × Unit → Option Int := Spec (ks := [.int .i64, .rp (.sl (.int .u8))]) (rs := [.int .u16]) (fun x => 0 ≤ x.1 ∧ x.1 < 8 * (x.2.1.length : Int)) fun x => bitAt x.2.1 x.1.toNat
noncomputable def g_ring_Cbd : Int × List Int × Unit → Option (List Int × Int) := Spec (ks := [.int .i64, .sl (.int .u8)]) (rs := [.xs (.int .u16) 256, .int .i64]) (fun _ => True) fun x => fCbd x.1 x.2.1
noncomputable def g_ref13_Cbd : Int × List Int × Unit → Option (List Int × Int) := Spec (ks := [.int .i64, .sl (.int .u8)]) (rs := [.xs (.int .u16) 256, .int .i64]) (fun _ => True) fun x => fCbd x.1 x.2.1
noncomputable def g_law13_RingCbds : Int × List Int × Unit → Option Bool := Spec (ks := [.int .i64, .sl (.int .u8)]) (rs := [.bool]) (fun _ => True) fun _ => true

def encV (d : Nat) (z : Int) : Int := if d = 12 then z % 3329 else z
def encE (d : Nat) (a : List Int) (t : Nat) : Int := bitI (encV d (a.getD (t / d) 0)) (t % d)
def fEncode (d : Int) (a : List Int) : List Int × Int := if d < 1 ∨ 12 < d then ([], 1) else (fBytes (encE d.toNat a) (32 * d.toNat), 0)
noncomputable def g_ring_Encode : Int × List Int × Unit → Option (List Int × Int) := Spec (ks := [.int .i64, .xs (.int .u16) 256]) (rs := [.sl (.int .u8), .int .i64]) (fun _ => True) fun x => fEncode x.1 x.2.1
noncomputable def g_ref13_Encode : Int × List Int × Unit → Option (List Int × Int) := Spec (ks := [.int .i64, .xs (.int .u16) 256]) (rs := [.sl (.int .u8), .int .i64]) (fun _ => True) fun x => fEncode x.1 x.2.1
def num (d : Nat) (b : List Int) (i : Nat) : Int := sumB d fun k => bitAt b (i * d + k)
def fRaw (d : Nat) (b : List Int) : List Int := poly (num d b)
def okLen (d : Int) (b : List Int) : Prop := 1 ≤ d ∧ d ≤ 12 ∧ (b.length : Int) = 32 * d
noncomputable def g_ring_raw : Int × List Int × Unit → Option (List Int) := Spec (ks := [.int .i64, .sl (.int .u8)]) (rs := [.xs (.int .u16) 256]) (fun x => okLen x.1 x.2.1) fun x => fRaw x.1.toNat x.2.1
noncomputable def g_ref13_numbers : Int × List Int × Unit → Option (List Int) := Spec (ks := [.int .i64, .sl (.int .u8)]) (rs := [.sl (.int .i64)]) (fun x => okLen x.1 x.2.1) fun x => fRaw x.1.toNat x.2.1
def fDecode (d : Int) (b : List Int) : List Int × Int := if d < 1 ∨ 12 < d ∨ (b.length : Int) ≠ 32 * d then (zeros, 1) else if d = 12 then (fRed (fRaw 12 b), 0) else (fRaw d.toNat b, 0)
noncomputable def g_ring_Decode : Int × List Int × Unit → Option (List Int × Int) := Spec (ks := [.int .i64, .sl (.int .u8)]) (rs := [.xs (.int .u16) 256, .int .i64]) (fun _ => True) fun x => fDecode x.1 x.2.1
noncomputable def g_ref13_Decode : Int × List Int × Unit → Option (List Int × Int) := Spec (ks := [.int .i64, .sl (.int .u8)]) (rs := [.xs (.int .u16) 256, .int .i64]) (fun _ => True) fun x => fDecode x.1 x.2.1
def fCanon (b : List Int) : Bool := decide (b.length = 384 ∧ fRaw 12 b = fRed (fRaw 12 b))
noncomputable def g_ring_Canon : List Int × Unit → Option Bool := Spec (ks := [.sl (.int .u8)]) (rs := [.bool]) (fun _ => True) fun x => fCanon x.1
noncomputable def g_ref13_Canon : List Int × Unit → Option Bool := Spec (ks := [.sl (.int .u8)]) (rs := [.bool]) (fun _ => True) fun x => fCanon x.1
noncomputable def g_law13_RingCodes : Int × List Int × List Int × Unit → Option Bool := Spec (ks := [.int .i64, .xs (.int .u16) 256, .sl (.int .u8)]) (rs := [.bool]) (fun _ => True) fun _ => true
noncomputable def g_law13_RingBack : Int × List Int × Unit → Option Bool := Spec (ks := [.int .i64, .xs (.int .u16) 256]) (rs := [.bool]) (fun _ => True) fun _ => true
end Go.Ax.TryP
/-! Printed by program (gen.py). -/
set_option linter.unusedVariables false
namespace Go.Ax.TryP
/-! livery/ring.Cbd$1 -/
noncomputable def p_ring_Cbd_1_E : AE := AE.of [(5, ty5), (22, ty22), (34, ty34)] []
noncomputable def p_ring_Cbd_1_H : Hints := [(3000000, [3])]
noncomputable def p_ring_Cbd_1_c : Code := (Go.Proofs.Try.f49).body.getD .skip
abbrev p_ring_Cbd_1_ks : List Kd := [.int .i64, .rp (.sl (.int .u8))]
abbrev p_ring_Cbd_1_rs : List Kd := [.int .u16]
noncomputable def p_ring_Cbd_1 (N : Nat) (x : Int × List Int × Unit) : Option (Int) :=
  if 0 ≤ (IntKind.i64.wrap (Int.tdiv x.1 (8:Int))) then (
  if (IntKind.i64.wrap (Int.tdiv x.1 (8:Int))) < (((List.length x.2.1) : Nat) : Int) then (
  if ((IntKind.i64.wrap (Int.tdiv x.1 (8:Int))).toNat) < (List.length x.2.1) then (
  if (Int.tmod x.1 (8:Int)) < 0 then none else (
  some (IntKind.u16.wrap (iand IntKind.u8 (ishr IntKind.u8 (List.getD x.2.1 ((IntKind.i64.wrap (Int.tdiv x.1 (8:Int))).toNat) 0) (Int.tmod x.1 (8:Int))) (1:Int))))) else none) else none) else none
theorem p_ring_Cbd_1_eq (N : Nat) (x : Ds [.int .i64, .rp (.sl (.int .u8))]) : funL p_ring_Cbd_1_E p_ring_Cbd_1_H (LT.nil) N Go.Proofs.Try.f49 p_ring_Cbd_1_c [.int .i64, .rp (.sl (.int .u8))] [.int .u16] x = p_ring_Cbd_1 N x := by kernel_rfl
theorem p_ring_Cbd_1_Eok : p_ring_Cbd_1_E.Ok Go.Proofs.Try.prog := AE.of_ok (all_cons ty5_ok (all_cons ty22_ok (all_cons ty34_ok all_nil))) all_nil
theorem p_ring_Cbd_1_ok {g : Ds [.int .i64, .rp (.sl (.int .u8))] → Option (Rs [.int .u16])} (hg : ∀ x r, g x = some r → ∃ N, p_ring_Cbd_1 N x = some r) : SigOk Go.Proofs.Try.prog 49 ⟨[.int .i64, .rp (.sl (.int .u8))], [.int .u16], g⟩ :=
  fun_of (E := p_ring_Cbd_1_E) (H := p_ring_Cbd_1_H) (L := fun N => LT.nil) (c := p_ring_Cbd_1_c) (ks := p_ring_Cbd_1_ks) (rs := p_ring_Cbd_1_rs) (F := p_ring_Cbd_1) (p_ring_Cbd_1_Eok) mix Go.Proofs.Try.func49 (by kernel_rfl) (fun N => OkAll.nil) p_ring_Cbd_1_eq hg

/-! livery/ring.Cbd -/
noncomputable def p_ring_Cbd_E : AE := AE.of [(22, ty22), (24, ty24), (34, ty34)] [(49, ⟨[.int .i64, .rp (.sl (.int .u8))], [.int .u16], g_ring_Cbd_1⟩)]
noncomputable def p_ring_Cbd_H : Hints := [(6, [0, 4, 6, 7, 26]), (10, [0, 4, 6, 7, 8, 9, 26, 29, 30]), (2000000, [4, 7]), (2000001, [0, 4, 6, 7, 26]), (2000002, [0, 4, 6, 7, 8, 9, 26]), (2000003, [0, 4, 6, 7, 8, 9, 26, 29, 30]), (3000000, [4, 5])]
noncomputable def p_ring_Cbd_c : Code := (Go.Proofs.Try.f22).body.getD .skip
noncomputable def p_ring_Cbd_l10_S : Shape where
  h := { tmps := [.sc (.int .i64), .any, .any, .any, .sc (.ptr 0 0 false), .any, .sc (.clo 49 1 0), .sc (.ptr 2 0 false), .sc (.int .i64), .sc (.int .u16), .any, .any, .any, .any, .any, .any, .any, .any, .any, .any, .any, .any, .any, .any, .any, .any, .sc (.int .i64), .any, .any, .sc (.int .i64), .sc (.int .i64), .any, .any, .any, .any, .any, .any, .any, .any, .any, .any, .any, .any, .any, .any, .any, .any, .any, .any, .any, .any, .any, .any, .any, .any, .any, .any, .any, .any, .any, .any], mem := [.live [.xs (.int .u16) (some 256)] true, .live [.one (.vec 3 none 1)] true, .live [.xs (.int .u16) (some 256)] true, .live [.xs (.int .u8) none] false] }
  ks := [.int, .int, .int, .int, .int, .int, .xs, .nat, .xs, .nat, .xs]
  st := fun x => { tmps := [.one (.sc (.int .i64 x.1)), .one .any, .one .any, .one .any, .one (.sc (.ptr 0 0 none)), .one .any, .one (.sc (.clo 49 1 0)), .one (.sc (.ptr 2 0 none)), .one (.sc (.int .i64 x.2.1)), .one (.sc (.int .u16 x.2.2.1)), .one .any, .one .any, .one .any, .one .any, .one .any, .one .any, .one .any, .one .any, .one .any, .one .any, .one .any, .one .any, .one .any, .one .any, .one .any, .one .any, .one (.sc (.int .i64 x.2.2.2.1)), .one .any, .one .any, .one (.sc (.int .i64 x.2.2.2.2.1)), .one (.sc (.int .i64 x.2.2.2.2.2.1)), .one .any, .one .any, .one .any, .one .any, .one .any, .one .any, .one .any, .one .any, .one .any, .one .any, .one .any, .one .any, .one .any, .one .any, .one .any, .one .any, .one .any, .one .any, .one .any, .one .any, .one .any, .one .any, .one .any, .one .any, .one .any, .one .any, .one .any, .one .any, .one .any, .one .any], mem := [.live { segs := [.xs (.int .u16) 256 x.2.2.2.2.2.2.1], own := true }, .live { segs := [.one (.vec 3 x.2.2.2.2.2.2.2.1 1)], own := true }, .live { segs := [.xs (.int .u16) 256 x.2.2.2.2.2.2.2.2.1], own := true }, .live { segs := [.xs (.int .u8) x.2.2.2.2.2.2.2.2.2.1 x.2.2.2.2.2.2.2.2.2.2.1], own := false }] }
noncomputable def p_ring_Cbd_l10_F (N : Nat) (β : Type) (x : (Int × Int × Int × Int × Int × Int × List Int × Nat × List Int × Nat × List Int × Unit)) (kn : (Int × Int × Int × Int × Int × Int × List Int × Nat × List Int × Nat × List Int × Unit) → Option β) (ke : ((Int × Int × Int × Int × List Int × Nat × List Int × Nat × List Int × Unit)) → Option β) : Option β :=
  if (x.2.2.2.2.2.1 < x.2.2.2.2.1) then
    (g_ring_Cbd_1 ((IntKind.i64.wrap ((IntKind.i64.wrap ((IntKind.i64.wrap ((2:Int) * x.1)) * x.2.1)) + x.2.2.2.2.2.1)), x.2.2.2.2.2.2.2.2.2.2.1, ())).bind fun r1 => (
    (g_ring_Cbd_1 ((IntKind.i64.wrap ((IntKind.i64.wrap ((IntKind.i64.wrap ((IntKind.i64.wrap ((2:Int) * x.1)) * x.2.1)) + x.1)) + x.2.2.2.2.2.1)), x.2.2.2.2.2.2.2.2.2.2.1, ())).bind fun r2 => (
    kn (x.1, x.2.1, (IntKind.u16.wrap (x.2.2.1 + (IntKind.u16.wrap (r1 - r2)))), x.2.2.2.1, x.2.2.2.2.1, (IntKind.i64.wrap (x.2.2.2.2.2.1 + (1:Int))), x.2.2.2.2.2.2.1, x.2.2.2.2.2.2.2.1, x.2.2.2.2.2.2.2.2.1, x.2.2.2.2.2.2.2.2.2.1, x.2.2.2.2.2.2.2.2.2.2.1, ())))
  else
    ke (x.1, x.2.1, x.2.2.1, x.2.2.2.1, x.2.2.2.2.2.2.1, x.2.2.2.2.2.2.2.1, x.2.2.2.2.2.2.2.2.1, x.2.2.2.2.2.2.2.2.2.1, x.2.2.2.2.2.2.2.2.2.2.1, ())
noncomputable def p_ring_Cbd_l10_go : Go' ((Int × Int × Int × Int × List Int × Nat × List Int × Nat × List Int × Unit)) := fun y K => K (.exit 2) { tmps := [.one (.sc (.int .i64 y.1)), .one .any, .one .any, .one .any, .one (.sc (.ptr 0 0 none)), .one .any, .one (.sc (.clo 49 1 0)), .one (.sc (.ptr 2 0 none)), .one (.sc (.int .i64 y.2.1)), .one (.sc (.int .u16 y.2.2.1)), .one .any, .one .any, .one .any, .one .any, .one .any, .one .any, .one .any, .one .any, .one .any, .one .any, .one .any, .one .any, .one .any, .one .any, .one .any, .one .any, .one (.sc (.int .i64 y.2.2.2.1)), .one .any, .one .any, .one .any, .one .any, .one .any, .one .any, .one .any, .one .any, .one .any, .one .any, .one .any, .one .any, .one .any, .one .any, .one .any, .one .any, .one .any, .one .any, .one .any, .one .any, .one .any, .one .any, .one .any, .one .any, .one .any, .one .any, .one .any, .one .any, .one .any, .one .any, .one .any, .one .any, .one .any, .one .any], mem := [.live { segs := [.xs (.int .u16) 256 y.2.2.2.2.1], own := true }, .live { segs := [.one (.vec 3 y.2.2.2.2.2.1 1)], own := true }, .live { segs := [.xs (.int .u16) 256 y.2.2.2.2.2.2.1], own := true }, .live { segs := [.xs (.int .u8) y.2.2.2.2.2.2.2.1 y.2.2.2.2.2.2.2.2.1], own := false }] }
noncomputable def p_ring_Cbd_l10_L (N : Nat) : LT := upd (LT.nil) 10 (loopE p_ring_Cbd_l10_S N (p_ring_Cbd_l10_F N) p_ring_Cbd_l10_go)
theorem p_ring_Cbd_l10_ok (N : Nat) : OkAll p_ring_Cbd_E p_ring_Cbd_H N (p_ring_Cbd_l10_L N) (subs p_ring_Cbd_c) :=
  addLoop (c := theLoop 10 p_ring_Cbd_c) (OkAll.nil) (by kernel_rfl) (fun x => by kernel_rfl) (fun β x kn ke => by kernel_rfl)
noncomputable def p_ring_Cbd_l6_S : Shape where
  h := { tmps := [.sc (.int .i64), .any, .any, .any, .sc (.ptr 0 0 false), .any, .sc (.clo 49 1 0), .sc (.ptr 2 0 false), .any, .any, .any, .any, .any, .any, .any, .any, .any, .any, .any, .any, .any, .any, .any, .any, .any, .any, .sc (.int .i64), .any, .any, .any, .any, .any, .any, .any, .any, .any, .any, .any, .any, .any, .any, .any, .any, .any, .any, .any, .any, .any, .any, .any, .any, .any, .any, .any, .any, .any, .any, .any, .any, .any, .any], mem := [.live [.xs (.int .u16) (some 256)] true, .live [.one (.vec 3 none 1)] true, .live [.xs (.int .u16) (some 256)] true, .live [.xs (.int .u8) none] false] }
  ks := [.int, .int, .xs, .nat, .xs, .nat, .xs]
  st := fun x => { tmps := [.one (.sc (.int .i64 x.1)), .one .any, .one .any, .one .any, .one (.sc (.ptr 0 0 none)), .one .any, .one (.sc (.clo 49 1 0)), .one (.sc (.ptr 2 0 none)), .one .any, .one .any, .one .any, .one .any, .one .any, .one .any, .one .any, .one .any, .one .any, .one .any, .one .any, .one .any, .one .any, .one .any, .one .any, .one .any, .one .any, .one .any, .one (.sc (.int .i64 x.2.1)), .one .any, .one .any, .one .any, .one .any, .one .any, .one .any, .one .any, .one .any, .one .any, .one .any, .one .any, .one .any, .one .any, .one .any, .one .any, .one .any, .one .any, .one .any, .one .any, .one .any, .one .any, .one .any, .one .any, .one .any, .one .any, .one .any, .one .any, .one .any, .one .any, .one .any, .one .any, .one .any, .one .any, .one .any], mem := [.live { segs := [.xs (.int .u16) 256 x.2.2.1], own := true }, .live { segs := [.one (.vec 3 x.2.2.2.1 1)], own := true }, .live { segs := [.xs (.int .u16) 256 x.2.2.2.2.1], own := true }, .live { segs := [.xs (.int .u8) x.2.2.2.2.2.1 x.2.2.2.2.2.2.1], own := false }] }
noncomputable def p_ring_Cbd_l6_F (N : Nat) (β : Type) (x : (Int × Int × List Int × Nat × List Int × Nat × List Int × Unit)) (kn : (Int × Int × List Int × Nat × List Int × Nat × List Int × Unit) → Option β) (ke : ((List Int × List Int × Unit)) → Option β) : Option β :=
  if (x.2.1 < (256:Int)) then
    iter (p_ring_Cbd_l10_F N) N (x.1, x.2.1, (3329:Int), x.2.1, x.1, (0:Int), x.2.2.1, x.2.2.2.1, x.2.2.2.2.1, x.2.2.2.2.2.1, x.2.2.2.2.2.2.1, ()) fun y3 => (
    if 0 ≤ y3.2.1 then (
    if y3.2.1 < 256 then (
    if (y3.2.1.toNat) < 256 then (
    kn (y3.1, (IntKind.i64.wrap (y3.2.2.2.1 + (1:Int))), y3.2.2.2.2.1, y3.2.2.2.2.2.1, (List.set y3.2.2.2.2.2.2.1 (y3.2.1.toNat) (Int.tmod y3.2.2.1 (3329:Int))), y3.2.2.2.2.2.2.2.1, y3.2.2.2.2.2.2.2.2.1, ())) else none) else none) else none)
  else
    ke (x.2.2.1, x.2.2.2.2.1, ())
noncomputable def p_ring_Cbd_l6_go : Go' ((List Int × List Int × Unit)) := fun y K => K (.exit 0) { tmps := [.one .any, .one .any, .one .any, .one .any, .one (.sc (.ptr 0 0 none)), .one .any, .one .any, .one (.sc (.ptr 1 0 none)), .one .any, .one .any, .one .any, .one .any, .one .any, .one .any, .one .any, .one .any, .one .any, .one .any, .one .any, .one .any, .one .any, .one .any, .one .any, .one .any, .one .any, .one .any, .one .any, .one .any, .one .any, .one .any, .one .any, .one .any, .one .any, .one .any, .one .any, .one .any, .one .any, .one .any, .one .any, .one .any, .one .any, .one .any, .one .any, .one .any, .one .any, .one .any, .one .any, .one .any, .one .any, .one .any, .one .any, .one .any, .one .any, .one .any, .one .any, .one .any, .one .any, .one .any, .one .any, .one .any, .one .any], mem := [.live { segs := [.xs (.int .u16) 256 y.1], own := true }, .live { segs := [.xs (.int .u16) 256 y.2.1], own := true }] }
noncomputable def p_ring_Cbd_l6_L (N : Nat) : LT := upd (p_ring_Cbd_l10_L N) 6 (loopE p_ring_Cbd_l6_S N (p_ring_Cbd_l6_F N) p_ring_Cbd_l6_go)
theorem p_ring_Cbd_l6_ok (N : Nat) : OkAll p_ring_Cbd_E p_ring_Cbd_H N (p_ring_Cbd_l6_L N) (subs p_ring_Cbd_c) :=
  addLoop (c := theLoop 6 p_ring_Cbd_c) (p_ring_Cbd_l10_ok N) (by kernel_rfl) (fun x => by kernel_rfl) (fun β x kn ke => by kernel_rfl)
abbrev p_ring_Cbd_ks : List Kd := [.int .i64, .sl (.int .u8)]
abbrev p_ring_Cbd_rs : List Kd := [.xs (.int .u16) 256, .int .i64]
noncomputable def p_ring_Cbd (N : Nat) (x : Int × List Int × Unit) : Option (List Int × Int) :=
  if (x.1 ≠ (2:Int)) then
    if (x.1 ≠ (3:Int)) then
      some ((List.replicate 256 0), (1:Int))
    else
      if ((((List.length x.2.1) : Nat) : Int) ≠ (IntKind.i64.wrap ((64:Int) * x.1))) then
        some ((List.replicate 256 0), (1:Int))
      else
        iter (p_ring_Cbd_l6_F N) N (x.1, (0:Int), (List.replicate 256 0), (List.length x.2.1), (List.replicate 256 0), (List.length x.2.1), x.2.1, ()) fun y4 => (
        some (y4.2.1, (0:Int)))
  else
    if ((((List.length x.2.1) : Nat) : Int) ≠ (IntKind.i64.wrap ((64:Int) * x.1))) then
      some ((List.replicate 256 0), (1:Int))
    else
      iter (p_ring_Cbd_l6_F N) N (x.1, (0:Int), (List.replicate 256 0), (List.length x.2.1), (List.replicate 256 0), (List.length x.2.1), x.2.1, ()) fun y5 => (
      some (y5.2.1, (0:Int)))
theorem p_ring_Cbd_eq (N : Nat) (x : Ds [.int .i64, .sl (.int .u8)]) : funL p_ring_Cbd_E p_ring_Cbd_H (p_ring_Cbd_l6_L N) N Go.Proofs.Try.f22 p_ring_Cbd_c [.int .i64, .sl (.int .u8)] [.xs (.int .u16) 256, .int .i64] x = p_ring_Cbd N x := by kernel_rfl
theorem p_ring_Cbd_Eok (he_ring_Cbd_1 : SigOk Go.Proofs.Try.prog 49 ⟨[.int .i64, .rp (.sl (.int .u8))], [.int .u16], g_ring_Cbd_1⟩) : p_ring_Cbd_E.Ok Go.Proofs.Try.prog := AE.of_ok (all_cons ty22_ok (all_cons ty24_ok (all_cons ty34_ok all_nil))) (all_cons ⟨he_ring_Cbd_1, enters_ring_Cbd_1⟩ all_nil)
theorem p_ring_Cbd_ok (he_ring_Cbd_1 : SigOk Go.Proofs.Try.prog 49 ⟨[.int .i64, .rp (.sl (.int .u8))], [.int .u16], g_ring_Cbd_1⟩) {g : Ds [.int .i64, .sl (.int .u8)] → Option (Rs [.xs (.int .u16) 256, .int .i64])} (hg : ∀ x r, g x = some r → ∃ N, p_ring_Cbd N x = some r) : SigOk Go.Proofs.Try.prog 22 ⟨[.int .i64, .sl (.int .u8)], [.xs (.int .u16) 256, .int .i64], g⟩ :=
  fun_of (E := p_ring_Cbd_E) (H := p_ring_Cbd_H) (L := fun N => p_ring_Cbd_l6_L N) (c := p_ring_Cbd_c) (ks := p_ring_Cbd_ks) (rs := p_ring_Cbd_rs) (F := p_ring_Cbd) (p_ring_Cbd_Eok he_ring_Cbd_1) mix Go.Proofs.Try.func22 (by kernel_rfl) (fun N => p_ring_Cbd_l6_ok N) p_ring_Cbd_eq hg

/-! livery/liveryref13.Cbd -/
noncomputable def p_ref13_Cbd_E : AE := AE.of [(3, ty3), (4, ty4), (22, ty22), (24, ty24), (34, ty34), (52, ty52)] [(50, ⟨[.sl (.int .u8)], [.sl .bool], g_ref01_Bits⟩)]
noncomputable def p_ref13_Cbd_H : Hints := [(6, [0, 4, 6, 7, 27]), (10, [0, 4, 6, 7, 8, 9, 27, 30, 31]), (2000000, [4, 7]), (2000001, [0, 4, 6, 7, 27]), (2000002, [0, 4, 6, 7, 8, 9, 27]), (2000003, [0, 4, 6, 7, 8, 9, 27, 30, 31]), (3000000, [4, 5])]
noncomputable def p_ref13_Cbd_c : Code := (Go.Proofs.Try.f23).body.getD .skip
noncomputable def p_ref13_Cbd_l10_S : Shape where
  h := { tmps := [.sc (.int .i64), .any, .any, .any, .sc (.ptr 0 0 false), .any, .sc (.vec 1 none 1), .sc (.ptr 2 0 false), .sc (.int .i64), .sc (.int .i64), .any, .any, .any, .any, .any, .any, .any, .any, .any, .any, .any, .any, .any, .any, .any, .any, .any, .sc (.int .i64), .any, .any, .sc (.int .i64), .sc (.int .i64), .any, .any, .any, .any, .any, .any, .any, .any, .any, .any, .any, .any, .any, .any, .any, .any, .any, .any, .any, .any, .any, .any, .any, .any, .any, .any, .any, .any, .any, .any, .any, .any, .any, .any], mem := [.live [.xs (.int .u16) (some 256)] true, .live [.xs .bool none] true, .live [.xs (.int .u16) (some 256)] true] }
  ks := [.int, .nat, .int, .int, .int, .int, .int, .xs, .nat, .xs, .xs]
  st := fun x => { tmps := [.one (.sc (.int .i64 x.1)), .one .any, .one .any, .one .any, .one (.sc (.ptr 0 0 none)), .one .any, .one (.sc (.vec 1 x.2.1 1)), .one (.sc (.ptr 2 0 none)), .one (.sc (.int .i64 x.2.2.1)), .one (.sc (.int .i64 x.2.2.2.1)), .one .any, .one .any, .one .any, .one .any, .one .any, .one .any, .one .any, .one .any, .one .any, .one .any, .one .any, .one .any, .one .any, .one .any, .one .any, .one .any, .one .any, .one (.sc (.int .i64 x.2.2.2.2.1)), .one .any, .one .any, .one (.sc (.int .i64 x.2.2.2.2.2.1)), .one (.sc (.int .i64 x.2.2.2.2.2.2.1)), .one .any, .one .any, .one .any, .one .any, .one .any, .one .any, .one .any, .one .any, .one .any, .one .any, .one .any, .one .any, .one .any, .one .any, .one .any, .one .any, .one .any, .one .any, .one .any, .one .any, .one .any, .one .any, .one .any, .one .any, .one .any, .one .any, .one .any, .one .any, .one .any, .one .any, .one .any, .one .any, .one .any, .one .any], mem := [.live { segs := [.xs (.int .u16) 256 x.2.2.2.2.2.2.2.1], own := true }, .live { segs := [.xs .bool x.2.2.2.2.2.2.2.2.1 x.2.2.2.2.2.2.2.2.2.1], own := true }, .live { segs := [.xs (.int .u16) 256 x.2.2.2.2.2.2.2.2.2.2.1], own := true }] }
noncomputable def p_ref13_Cbd_l10_F (N : Nat) (β : Type) (x : (Int × Nat × Int × Int × Int × Int × Int × List Int × Nat × List Int × List Int × Unit)) (kn : (Int × Nat × Int × Int × Int × Int × Int × List Int × Nat × List Int × List Int × Unit) → Option β) (ke : ((Int × Nat × Int × Int × Int × List Int × Nat × List Int × List Int × Unit)) → Option β) : Option β :=
  if (x.2.2.2.2.2.2.1 < x.2.2.2.2.2.1) then
    if 0 ≤ (IntKind.i64.wrap ((IntKind.i64.wrap ((IntKind.i64.wrap ((2:Int) * x.1)) * x.2.2.1)) + x.2.2.2.2.2.2.1)) then (
    if (IntKind.i64.wrap ((IntKind.i64.wrap ((IntKind.i64.wrap ((2:Int) * x.1)) * x.2.2.1)) + x.2.2.2.2.2.2.1)) < ((x.2.1 : Nat) : Int) then (
    if ((IntKind.i64.wrap ((IntKind.i64.wrap ((IntKind.i64.wrap ((2:Int) * x.1)) * x.2.2.1)) + x.2.2.2.2.2.2.1)).toNat) < x.2.2.2.2.2.2.2.2.1 then (
    if ((List.getD x.2.2.2.2.2.2.2.2.2.1 ((IntKind.i64.wrap ((IntKind.i64.wrap ((IntKind.i64.wrap ((2:Int) * x.1)) * x.2.2.1)) + x.2.2.2.2.2.2.1)).toNat) 0) ≠ 0) then
      if 0 ≤ (IntKind.i64.wrap ((IntKind.i64.wrap ((IntKind.i64.wrap ((IntKind.i64.wrap ((2:Int) * x.1)) * x.2.2.1)) + x.1)) + x.2.2.2.2.2.2.1)) then (
      if (IntKind.i64.wrap ((IntKind.i64.wrap ((IntKind.i64.wrap ((IntKind.i64.wrap ((2:Int) * x.1)) * x.2.2.1)) + x.1)) + x.2.2.2.2.2.2.1)) < ((x.2.1 : Nat) : Int) then (
      if ((IntKind.i64.wrap ((IntKind.i64.wrap ((IntKind.i64.wrap ((IntKind.i64.wrap ((2:Int) * x.1)) * x.2.2.1)) + x.1)) + x.2.2.2.2.2.2.1)).toNat) < x.2.2.2.2.2.2.2.2.1 then (
      if ((List.getD x.2.2.2.2.2.2.2.2.2.1 ((IntKind.i64.wrap ((IntKind.i64.wrap ((IntKind.i64.wrap ((IntKind.i64.wrap ((2:Int) * x.1)) * x.2.2.1)) + x.1)) + x.2.2.2.2.2.2.1)).toNat) 0) ≠ 0) then
        kn (x.1, x.2.1, x.2.2.1, (IntKind.i64.wrap ((IntKind.i64.wrap (x.2.2.2.1 + (1:Int))) - (1:Int))), x.2.2.2.2.1, x.2.2.2.2.2.1, (IntKind.i64.wrap (x.2.2.2.2.2.2.1 + (1:Int))), x.2.2.2.2.2.2.2.1, x.2.2.2.2.2.2.2.2.1, x.2.2.2.2.2.2.2.2.2.1, x.2.2.2.2.2.2.2.2.2.2.1, ())
      else
        kn (x.1, x.2.1, x.2.2.1, (IntKind.i64.wrap (x.2.2.2.1 + (1:Int))), x.2.2.2.2.1, x.2.2.2.2.2.1, (IntKind.i64.wrap (x.2.2.2.2.2.2.1 + (1:Int))), x.2.2.2.2.2.2.2.1, x.2.2.2.2.2.2.2.2.1, x.2.2.2.2.2.2.2.2.2.1, x.2.2.2.2.2.2.2.2.2.2.1, ())) else none) else none) else none
    else
      if 0 ≤ (IntKind.i64.wrap ((IntKind.i64.wrap ((IntKind.i64.wrap ((IntKind.i64.wrap ((2:Int) * x.1)) * x.2.2.1)) + x.1)) + x.2.2.2.2.2.2.1)) then (
      if (IntKind.i64.wrap ((IntKind.i64.wrap ((IntKind.i64.wrap ((IntKind.i64.wrap ((2:Int) * x.1)) * x.2.2.1)) + x.1)) + x.2.2.2.2.2.2.1)) < ((x.2.1 : Nat) : Int) then (
      if ((IntKind.i64.wrap ((IntKind.i64.wrap ((IntKind.i64.wrap ((IntKind.i64.wrap ((2:Int) * x.1)) * x.2.2.1)) + x.1)) + x.2.2.2.2.2.2.1)).toNat) < x.2.2.2.2.2.2.2.2.1 then (
      if ((List.getD x.2.2.2.2.2.2.2.2.2.1 ((IntKind.i64.wrap ((IntKind.i64.wrap ((IntKind.i64.wrap ((IntKind.i64.wrap ((2:Int) * x.1)) * x.2.2.1)) + x.1)) + x.2.2.2.2.2.2.1)).toNat) 0) ≠ 0) then
        kn (x.1, x.2.1, x.2.2.1, (IntKind.i64.wrap (x.2.2.2.1 - (1:Int))), x.2.2.2.2.1, x.2.2.2.2.2.1, (IntKind.i64.wrap (x.2.2.2.2.2.2.1 + (1:Int))), x.2.2.2.2.2.2.2.1, x.2.2.2.2.2.2.2.2.1, x.2.2.2.2.2.2.2.2.2.1, x.2.2.2.2.2.2.2.2.2.2.1, ())
      else
        kn (x.1, x.2.1, x.2.2.1, x.2.2.2.1, x.2.2.2.2.1, x.2.2.2.2.2.1, (IntKind.i64.wrap (x.2.2.2.2.2.2.1 + (1:Int))), x.2.2.2.2.2.2.2.1, x.2.2.2.2.2.2.2.2.1, x.2.2.2.2.2.2.2.2.2.1, x.2.2.2.2.2.2.2.2.2.2.1, ())) else none) else none) else none) else none) else none) else none
  else
    ke (x.1, x.2.1, x.2.2.1, x.2.2.2.1, x.2.2.2.2.1, x.2.2.2.2.2.2.2.1, x.2.2.2.2.2.2.2.2.1, x.2.2.2.2.2.2.2.2.2.1, x.2.2.2.2.2.2.2.2.2.2.1, ())
noncomputable def p_ref13_Cbd_l10_go : Go' ((Int × Nat × Int × Int × Int × List Int × Nat × List Int × List Int × Unit)) := fun y K => K (.exit 2) { tmps := [.one (.sc (.int .i64 y.1)), .one .any, .one .any, .one .any, .one (.sc (.ptr 0 0 none)), .one .any, .one (.sc (.vec 1 y.2.1 1)), .one (.sc (.ptr 2 0 none)), .one (.sc (.int .i64 y.2.2.1)), .one (.sc (.int .i64 y.2.2.2.1)), .one .any, .one .any, .one .any, .one .any, .one .any, .one .any, .one .any, .one .any, .one .any, .one .any, .one .any, .one .any, .one .any, .one .any, .one .any, .one .any, .one .any, .one (.sc (.int .i64 y.2.2.2.2.1)), .one .any, .one .any, .one .any, .one .any, .one .any, .one .any, .one .any, .one .any, .one .any, .one .any, .one .any, .one .any, .one .any, .one .any, .one .any, .one .any, .one .any, .one .any, .one .any, .one .any, .one .any, .one .any, .one .any, .one .any, .one .any, .one .any, .one .any, .one .any, .one .any, .one .any, .one .any, .one .any, .one .any, .one .any, .one .any, .one .any, .one .any, .one .any], mem := [.live { segs := [.xs (.int .u16) 256 y.2.2.2.2.2.1], own := true }, .live { segs := [.xs .bool y.2.2.2.2.2.2.1 y.2.2.2.2.2.2.2.1], own := true }, .live { segs := [.xs (.int .u16) 256 y.2.2.2.2.2.2.2.2.1], own := true }] }
noncomputable def p_ref13_Cbd_l10_L (N : Nat) : LT := upd (LT.nil) 10 (loopE p_ref13_Cbd_l10_S N (p_ref13_Cbd_l10_F N) p_ref13_Cbd_l10_go)
theorem p_ref13_Cbd_l10_ok (N : Nat) : OkAll p_ref13_Cbd_E p_ref13_Cbd_H N (p_ref13_Cbd_l10_L N) (subs p_ref13_Cbd_c) :=
  addLoop (c := theLoop 10 p_ref13_Cbd_c) (OkAll.nil) (by kernel_rfl) (fun x => by kernel_rfl) (fun β x kn ke => by kernel_rfl)
noncomputable def p_ref13_Cbd_l6_S : Shape where
  h := { tmps := [.sc (.int .i64), .any, .any, .any, .sc (.ptr 0 0 false), .any, .sc (.vec 1 none 1), .sc (.ptr 2 0 false), .any, .any, .any, .any, .any, .any, .any, .any, .any, .any, .any, .any, .any, .any, .any, .any, .any, .any, .any, .sc (.int .i64), .any, .any, .any, .any, .any, .any, .any, .any, .any, .any, .any, .any, .any, .any, .any, .any, .any, .any, .any, .any, .any, .any, .any, .any, .any, .any, .any, .any, .any, .any, .any, .any, .any, .any, .any, .any, .any, .any], mem := [.live [.xs (.int .u16) (some 256)] true, .live [.xs .bool none] true, .live [.xs (.int .u16) (some 256)] true] }
  ks := [.int, .nat, .int, .xs, .nat, .xs, .xs]
  st := fun x => { tmps := [.one (.sc (.int .i64 x.1)), .one .any, .one .any, .one .any, .one (.sc (.ptr 0 0 none)), .one .any, .one (.sc (.vec 1 x.2.1 1)), .one (.sc (.ptr 2 0 none)), .one .any, .one .any, .one .any, .one .any, .one .any, .one .any, .one .any, .one .any, .one .any, .one .any, .one .any, .one .any, .one .any, .one .any, .one .any, .one .any, .one .any, .one .any, .one .any, .one (.sc (.int .i64 x.2.2.1)), .one .any, .one .any, .one .any, .one .any, .one .any, .one .any, .one .any, .one .any, .one .any, .one .any, .one .any, .one .any, .one .any, .one .any, .one .any, .one .any, .one .any, .one .any, .one .any, .one .any, .one .any, .one .any, .one .any, .one .any, .one .any, .one .any, .one .any, .one .any, .one .any, .one .any, .one .any, .one .any, .one .any, .one .any, .one .any, .one .any, .one .any, .one .any], mem := [.live { segs := [.xs (.int .u16) 256 x.2.2.2.1], own := true }, .live { segs := [.xs .bool x.2.2.2.2.1 x.2.2.2.2.2.1], own := true }, .live { segs := [.xs (.int .u16) 256 x.2.2.2.2.2.2.1], own := true }] }
noncomputable def p_ref13_Cbd_l6_F (N : Nat) (β : Type) (x : (Int × Nat × Int × List Int × Nat × List Int × List Int × Unit)) (kn : (Int × Nat × Int × List Int × Nat × List Int × List Int × Unit) → Option β) (ke : ((List Int × List Int × Unit)) → Option β) : Option β :=
  if (x.2.2.1 < (256:Int)) then
    iter (p_ref13_Cbd_l10_F N) N (x.1, x.2.1, x.2.2.1, (3329:Int), x.2.2.1, x.1, (0:Int), x.2.2.2.1, x.2.2.2.2.1, x.2.2.2.2.2.1, x.2.2.2.2.2.2.1, ()) fun y2 => (
    if 0 ≤ y2.2.2.1 then (
    if y2.2.2.1 < 256 then (
    if (y2.2.2.1.toNat) < 256 then (
    kn (y2.1, y2.2.1, (IntKind.i64.wrap (y2.2.2.2.2.1 + (1:Int))), y2.2.2.2.2.2.1, y2.2.2.2.2.2.2.1, y2.2.2.2.2.2.2.2.1, (List.set y2.2.2.2.2.2.2.2.2.1 (y2.2.2.1.toNat) (IntKind.u16.wrap (Int.tmod y2.2.2.2.1 (3329:Int)))), ())) else none) else none) else none)
  else
    ke (x.2.2.2.1, x.2.2.2.2.2.2.1, ())
noncomputable def p_ref13_Cbd_l6_go : Go' ((List Int × List Int × Unit)) := fun y K => K (.exit 0) { tmps := [.one .any, .one .any, .one .any, .one .any, .one (.sc (.ptr 0 0 none)), .one .any, .one .any, .one (.sc (.ptr 1 0 none)), .one .any, .one .any, .one .any, .one .any, .one .any, .one .any, .one .any, .one .any, .one .any, .one .any, .one .any, .one .any, .one .any, .one .any, .one .any, .one .any, .one .any, .one .any, .one .any, .one .any, .one .any, .one .any, .one .any, .one .any, .one .any, .one .any, .one .any, .one .any, .one .any, .one .any, .one .any, .one .any, .one .any, .one .any, .one .any, .one .any, .one .any, .one .any, .one .any, .one .any, .one .any, .one .any, .one .any, .one .any, .one .any, .one .any, .one .any, .one .any, .one .any, .one .any, .one .any, .one .any, .one .any, .one .any, .one .any, .one .any, .one .any, .one .any], mem := [.live { segs := [.xs (.int .u16) 256 y.1], own := true }, .live { segs := [.xs (.int .u16) 256 y.2.1], own := true }] }
noncomputable def p_ref13_Cbd_l6_L (N : Nat) : LT := upd (p_ref13_Cbd_l10_L N) 6 (loopE p_ref13_Cbd_l6_S N (p_ref13_Cbd_l6_F N) p_ref13_Cbd_l6_go)
theorem p_ref13_Cbd_l6_ok (N : Nat) : OkAll p_ref13_Cbd_E p_ref13_Cbd_H N (p_ref13_Cbd_l6_L N) (subs p_ref13_Cbd_c) :=
  addLoop (c := theLoop 6 p_ref13_Cbd_c) (p_ref13_Cbd_l10_ok N) (by kernel_rfl) (fun x => by kernel_rfl) (fun β x kn ke => by kernel_rfl)
abbrev p_ref13_Cbd_ks : List Kd := [.int .i64, .sl (.int .u8)]
abbrev p_ref13_Cbd_rs : List Kd := [.xs (.int .u16) 256, .int .i64]
noncomputable def p_ref13_Cbd (N : Nat) (x : Int × List Int × Unit) : Option (List Int × Int) :=
  if (x.1 ≠ (2:Int)) then
    if (x.1 ≠ (3:Int)) then
      some ((List.replicate 256 0), (1:Int))
    else
      if ((((List.length x.2.1) : Nat) : Int) ≠ (IntKind.i64.wrap ((64:Int) * x.1))) then
        some ((List.replicate 256 0), (1:Int))
      else
        (g_ref01_Bits (x.2.1, ())).bind fun r1 => (
        iter (p_ref13_Cbd_l6_F N) N (x.1, (List.length r1), (0:Int), (List.replicate 256 0), (List.length r1), r1, (List.replicate 256 0), ()) fun y3 => (
        some (y3.2.1, (0:Int))))
  else
    if ((((List.length x.2.1) : Nat) : Int) ≠ (IntKind.i64.wrap ((64:Int) * x.1))) then
      some ((List.replicate 256 0), (1:Int))
    else
      (g_ref01_Bits (x.2.1, ())).bind fun r4 => (
      iter (p_ref13_Cbd_l6_F N) N (x.1, (List.length r4), (0:Int), (List.replicate 256 0), (List.length r4), r4, (List.replicate 256 0), ()) fun y5 => (
      some (y5.2.1, (0:Int))))
theorem p_ref13_Cbd_eq (N : Nat) (x : Ds [.int .i64, .sl (.int .u8)]) : funL p_ref13_Cbd_E p_ref13_Cbd_H (p_ref13_Cbd_l6_L N) N Go.Proofs.Try.f23 p_ref13_Cbd_c [.int .i64, .sl (.int .u8)] [.xs (.int .u16) 256, .int .i64] x = p_ref13_Cbd N x := by kernel_rfl
theorem p_ref13_Cbd_Eok (he_ref01_Bits : SigOk Go.Proofs.Try.prog 50 ⟨[.sl (.int .u8)], [.sl .bool], g_ref01_Bits⟩) : p_ref13_Cbd_E.Ok Go.Proofs.Try.prog := AE.of_ok (all_cons ty3_ok (all_cons ty4_ok (all_cons ty22_ok (all_cons ty24_ok (all_cons ty34_ok (all_cons ty52_ok all_nil)))))) (all_cons ⟨he_ref01_Bits, enters_ref01_Bits⟩ all_nil)
theorem p_ref13_Cbd_ok (he_ref01_Bits : SigOk Go.Proofs.Try.prog 50 ⟨[.sl (.int .u8)], [.sl .bool], g_ref01_Bits⟩) {g : Ds [.int .i64, .sl (.int .u8)] → Option (Rs [.xs (.int .u16) 256, .int .i64])} (hg : ∀ x r, g x = some r → ∃ N, p_ref13_Cbd N x = some r) : SigOk Go.Proofs.Try.prog 23 ⟨[.int .i64, .sl (.int .u8)], [.xs (.int .u16) 256, .int .i64], g⟩ :=
  fun_of (E := p_ref13_Cbd_E) (H := p_ref13_Cbd_H) (L := fun N => p_ref13_Cbd_l6_L N) (c := p_ref13_Cbd_c) (ks := p_ref13_Cbd_ks) (rs := p_ref13_Cbd_rs) (F := p_ref13_Cbd) (p_ref13_Cbd_Eok he_ref01_Bits) mix Go.Proofs.Try.func23 (by kernel_rfl) (fun N => p_ref13_Cbd_l6_ok N) p_ref13_Cbd_eq hg

/-! livery/liverylaw13.RingCbds -/
noncomputable def p_law13_RingCbds_E : AE := AE.of [(22, ty22), (24, ty24)] [(22, ⟨[.int .i64, .sl (.int .u8)], [.xs (.int .u16) 256, .int .i64], g_ring_Cbd⟩), (23, ⟨[.int .i64, .sl (.int .u8)], [.xs (.int .u16) 256, .int .i64], g_ref13_Cbd⟩), (18, ⟨[], [.bool], g_law13_live⟩)]
noncomputable def p_law13_RingCbds_H : Hints := [(3000000, [4])]
noncomputable def p_law13_RingCbds_c : Code := (Go.Proofs.Try.f6).body.getD .skip
abbrev p_law13_RingCbds_ks : List Kd := [.int .i64, .sl (.int .u8)]
abbrev p_law13_RingCbds_rs : List Kd := [.bool]
noncomputable def p_law13_RingCbds (N : Nat) (x : Int × List Int × Unit) : Option (Bool) :=
  (g_ring_Cbd (x.1, x.2.1, ())).bind fun r1 => (
  (g_ref13_Cbd (x.1, x.2.1, ())).bind fun r2 => (
  (g_law13_live (())).bind fun r3 => (
  if (r3 = true) then
    if (r1.1 = r2.1) then
      some (decide (r1.2 = r2.2))
    else
      some false
  else
    some false)))
theorem p_law13_RingCbds_eq (N : Nat) (x : Ds [.int .i64, .sl (.int .u8)]) : funL p_law13_RingCbds_E p_law13_RingCbds_H (LT.nil) N Go.Proofs.Try.f6 p_law13_RingCbds_c [.int .i64, .sl (.int .u8)] [.bool] x = p_law13_RingCbds N x := by kernel_rfl
theorem p_law13_RingCbds_Eok (he_ring_Cbd : SigOk Go.Proofs.Try.prog 22 ⟨[.int .i64, .sl (.int .u8)], [.xs (.int .u16) 256, .int .i64], g_ring_Cbd⟩) (he_ref13_Cbd : SigOk Go.Proofs.Try.prog 23 ⟨[.int .i64, .sl (.int .u8)], [.xs (.int .u16) 256, .int .i64], g_ref13_Cbd⟩) (he_law13_live : SigOk Go.Proofs.Try.prog 18 ⟨[], [.bool], g_law13_live⟩) : p_law13_RingCbds_E.Ok Go.Proofs.Try.prog := AE.of_ok (all_cons ty22_ok (all_cons ty24_ok all_nil)) (all_cons ⟨he_ring_Cbd, enters_ring_Cbd⟩ (all_cons ⟨he_ref13_Cbd, enters_ref13_Cbd⟩ (all_cons ⟨he_law13_live, enters_law13_live⟩ all_nil)))
theorem p_law13_RingCbds_ok (he_ring_Cbd : SigOk Go.Proofs.Try.prog 22 ⟨[.int .i64, .sl (.int .u8)], [.xs (.int .u16) 256, .int .i64], g_ring_Cbd⟩) (he_ref13_Cbd : SigOk Go.Proofs.Try.prog 23 ⟨[.int .i64, .sl (.int .u8)], [.xs (.int .u16) 256, .int .i64], g_ref13_Cbd⟩) (he_law13_live : SigOk Go.Proofs.Try.prog 18 ⟨[], [.bool], g_law13_live⟩) {g : Ds [.int .i64, .sl (.int .u8)] → Option (Rs [.bool])} (hg : ∀ x r, g x = some r → ∃ N, p_law13_RingCbds N x = some r) : SigOk Go.Proofs.Try.prog 6 ⟨[.int .i64, .sl (.int .u8)], [.bool], g⟩ :=
  fun_of (E := p_law13_RingCbds_E) (H := p_law13_RingCbds_H) (L := fun N => LT.nil) (c := p_law13_RingCbds_c) (ks := p_law13_RingCbds_ks) (rs := p_law13_RingCbds_rs) (F := p_law13_RingCbds) (p_law13_RingCbds_Eok he_ring_Cbd he_ref13_Cbd he_law13_live) mix Go.Proofs.Try.func6 (by kernel_rfl) (fun N => OkAll.nil) p_law13_RingCbds_eq hg
end Go.Ax.TryP
/-! ### Small numbers of bits -/
namespace Go.Ax.TryP

theorem wf_ib {d : Int} {b : List Int} : wfAll [.int .i64, .sl (.int .u8)] (d, b, ()) ↔ (-9223372036854775808 ≤ d ∧ d ≤ 9223372036854775807) ∧ b.length ≤ maxLen ∧ ∀ z ∈ b, 0 ≤ z ∧ z ≤ 255 := by
  have : Kd.wf (.int .i64) d ↔ -9223372036854775808 ≤ d ∧ d ≤ 9223372036854775807 := okInt_i64
  simp only [wfAll, wf_bytes, and_true, this]
theorem wf_irb {d : Int} {b : List Int} : wfAll [.int .i64, .rp (.sl (.int .u8))] (d, b, ()) ↔ (-9223372036854775808 ≤ d ∧ d ≤ 9223372036854775807) ∧ b.length ≤ maxLen ∧ ∀ z ∈ b, 0 ≤ z ∧ z ≤ 255 := wf_ib
theorem at_Cbd1 {n : Int} {b : List Int} (h : b.length ≤ maxLen ∧ ∀ z ∈ b, 0 ≤ z ∧ z ≤ 255) (h1 : -9223372036854775808 ≤ n ∧ n ≤ 9223372036854775807) (hn : 0 ≤ n ∧ n < 8 * (b.length : Int)) :
    g_ring_Cbd_1 (n, b, ()) = some (bitAt b n.toNat) := Spec_at (ks := p_ring_Cbd_1_ks) (rs := p_ring_Cbd_1_rs) (x := (n, b, ())) (wf_irb.2 ⟨h1, h⟩) hn
theorem bitAt_b (b : List Int) (t : Nat) : 0 ≤ bitAt b t ∧ bitAt b t ≤ 1 := bitI_b _ _

theorem q_ring_Cbd_1 : ∀ x r, g_ring_Cbd_1 x = some r → ∃ N, p_ring_Cbd_1 N x = some r := by
  refine Spec_of (ks := p_ring_Cbd_1_ks) (rs := p_ring_Cbd_1_rs) fun x hw hq => ⟨0, ?_⟩
  obtain ⟨(n : Int), (b : List Int), u⟩ := x
  obtain ⟨hn, hl, hb⟩ := wf_irb.1 hw
  have hq : 0 ≤ n ∧ n < 8 * (b.length : Int) := hq
  obtain ⟨m, rfl⟩ : ∃ m : Nat, n = m := ⟨n.toNat, by omega⟩
  have hz := byte_at hb (m / 8)
  have e1 : (m : Int) / 8 = ((m / 8 : Nat) : Int) := by omega
  have e2 : (m : Int) % 8 = ((m % 8 : Nat) : Int) := by omega
  have hbit := bitI_b (b.getD (m / 8) 0) (m % 8)
  unfold p_ring_Cbd_1
  dsimp only
  rw [tdiv_pos (show (0 : Int) ≤ m by omega), tmod_pos (show (0 : Int) ≤ m by omega), e1, e2, wrap_i64 (by omega) (by omega), Int.toNat_natCast, if_pos (by omega), if_pos (by omega), if_pos (by omega),
    if_neg (by omega), bit_u8 hz.1 hz.2 (show m % 8 ≤ 8 by omega), wrap_u16 hbit.1 (by omega)]
  rfl

def cbdTo (e : Nat) (b : List Int) (i k : Nat) : Int := 3329 + sum k fun k => bitAt b (2 * e * i + k) - bitAt b (2 * e * i + e + k)
theorem cbdTo_b (e : Nat) (b : List Int) (i : Nat) : ∀ k : Nat, 3329 - (k : Int) ≤ cbdTo e b i k ∧ cbdTo e b i k ≤ 3329 + (k : Int)
  | 0 => by simp [cbdTo, sum]
  | k + 1 => by
    have h := cbdTo_b e b i k
    have h1 := bitAt_b b (2 * e * i + k)
    have h2 := bitAt_b b (2 * e * i + e + k)
    unfold cbdTo at *
    rw [sum]
    omega
theorem cbdTo_succ (e : Nat) (b : List Int) (i k : Nat) : cbdTo e b i (k + 1) = cbdTo e b i k + (bitAt b (2 * e * i + k) - bitAt b (2 * e * i + e + k)) := by
  unfold cbdTo; rw [sum]; omega

theorem cbd_loop {e : Nat} {b : List Int} (he : e = 2 ∨ e = 3) (hlen : b.length = 64 * e) (hb : b.length ≤ maxLen ∧ ∀ z ∈ b, 0 ≤ z ∧ z ≤ 255) {β : Type} {K : _ → Option β} (Z : List Int) (hZ : Z.length = 256) :
    iter (p_ring_Cbd_l6_F 300) 300 ((e : Int), (0 : Int), Z, b.length, Z, b.length, b, ()) K = K (Z, poly (cbd e b), ()) := by
  refine (iter_run (F := p_ring_Cbd_l6_F 300) (s := fun i => ((e : Int), (i : Int), Z, b.length, part (cbd e b) i Z, b.length, b, ())) (y := (Z, poly (cbd e b), ())) 256 ?_ ?_ 300 (by omega))
  · intro i hi kn
    unfold p_ring_Cbd_l6_F
    dsimp only
    rw [if_pos (by omega)]
    refine (iter_run (F := p_ring_Cbd_l10_F 300) (s := fun k => ((e : Int), (i : Int), cbdTo e b i k, (i : Int), (e : Int), (k : Int), Z, b.length, part (cbd e b) i Z, b.length, b, ()))
      (y := ((e : Int), (i : Int), cbdTo e b i e, (i : Int), Z, b.length, part (cbd e b) i Z, b.length, b, ())) e ?_ ?_ 300 (by omega)).trans ?_
    · intro k hk kn
      have hc := cbdTo_b e b i k
      have hc2 := cbdTo_b e b i (k + 1)
      have h1 := bitAt_b b (2 * e * i + k)
      have h2 := bitAt_b b (2 * e * i + e + k)
      have e1 : ((2 : Int) * e) * i + k = ((2 * e * i + k : Nat) : Int) := by simp
      have e2 : ((2 : Int) * e) * i + e + k = ((2 * e * i + e + k : Nat) : Int) := by simp
      have hm : 2 * e * i + e + k < 8 * b.length := by rcases he with rfl | rfl <;> omega
      have hm2 : 2 * e * i ≤ 3000 := by rcases he with rfl | rfl <;> omega
      have e3 : ((2 : Int) * e) * i = ((2 * e * i : Nat) : Int) := by simp
      unfold p_ring_Cbd_l10_F
      dsimp only
      rw [if_pos (by omega), wrap_i64 (x := 2 * (e : Int)) (by omega) (by omega), wrap_i64 (x := 2 * (e : Int) * i) (by omega) (by omega), wrap_i64 (x := 2 * (e : Int) * i + k) (by omega) (by omega),
        wrap_i64 (x := 2 * (e : Int) * i + e) (by omega) (by omega), wrap_i64 (x := 2 * (e : Int) * i + e + k) (by omega) (by omega), e1, e2, at_Cbd1 hb (by omega) (by omega)]
      simp only [Option.bind_some]
      rw [at_Cbd1 hb (by omega) (by omega)]
      simp only [Option.bind_some]
      rw [Int.toNat_natCast, Int.toNat_natCast, wrap_i64 (x := (k : Int) + 1) (by omega) (by omega)]
      have ev : IntKind.u16.wrap (cbdTo e b i k + IntKind.u16.wrap (bitAt b (2 * e * i + k) - bitAt b (2 * e * i + e + k))) = cbdTo e b i (k + 1) := by
        rw [cbdTo_succ] at *
        rw [wrap_u16_mod, wrap_u16_mod]
        omega
      rw [ev, Int.natCast_add]
      rfl
    · intro kn
      unfold p_ring_Cbd_l10_F
      dsimp only
      rw [if_neg (by omega)]
    · have hc := cbdTo_b e b i e
      dsimp only
      rw [if_pos (by omega), if_pos (by omega), if_pos (by omega), Int.toNat_natCast, wrap_i64 (by omega) (by omega), tmod_pos (by omega)]
      rw [part_set' (h := cbd e b) (i := i) (a := Z) (z := cbdTo e b i e % 3329) (by omega) rfl, Int.natCast_add]
      rfl
  · intro kn
    unfold p_ring_Cbd_l6_F
    dsimp only
    rw [if_neg (by omega), part_all hZ]
    rfl
theorem q_ring_Cbd : ∀ x r, g_ring_Cbd x = some r → ∃ N, p_ring_Cbd N x = some r := by
  refine Spec_of (ks := p_ring_Cbd_ks) (rs := p_ring_Cbd_rs) fun x hw _ => ⟨300, ?_⟩
  obtain ⟨(d : Int), (b : List Int), u⟩ := x
  obtain ⟨hd, hb⟩ := wf_ib.1 hw
  unfold p_ring_Cbd
  have hZ : (List.replicate 256 (0 : Int)).length = 256 := List.length_replicate ..
  dsimp only
  show _ = some (fCbd d b)
  have hz : zeros = List.replicate 256 0 := rfl
  unfold fCbd
  rw [hz]
  generalize List.replicate 256 (0 : Int) = Z at hZ ⊢
  by_cases h2 : d = 2
  · subst h2
    rw [if_neg (by omega), wrap_i64 (by omega) (by omega)]
    by_cases hl : (b.length : Int) = 64 * 2
    · rw [if_neg (by omega), if_pos ⟨.inl rfl, hl⟩]
      exact (cbd_loop (e := 2) (.inl rfl) (by omega) hb Z hZ).trans rfl
    · rw [if_pos hl, if_neg fun h => hl h.2]
  · rw [if_pos h2]
    by_cases h3 : d = 3
    · subst h3
      rw [if_neg (by omega), wrap_i64 (by omega) (by omega)]
      by_cases hl : (b.length : Int) = 64 * 3
      · rw [if_neg (by omega), if_pos ⟨.inr rfl, hl⟩]
        exact (cbd_loop (e := 3) (.inr rfl) (by omega) hb Z hZ).trans rfl
      · rw [if_pos hl, if_neg fun h => hl h.2]
    · rw [if_pos h3, if_neg fun h => by omega]

theorem refcbd_loop {e : Nat} {b : List Int} (he : e = 2 ∨ e = 3) (hlen : b.length = 64 * e) {β : Type} {K : _ → Option β} (Z : List Int) (hZ : Z.length = 256) :
    iter (p_ref13_Cbd_l6_F 300) 300 ((e : Int), (bitsOf b).length, (0 : Int), Z, (bitsOf b).length, bitsOf b, Z, ()) K = K (Z, poly (cbd e b), ()) := by
  have hL := bitsOf_len b
  generalize hB : (bitsOf b).length = B at hL ⊢
  refine (iter_run (F := p_ref13_Cbd_l6_F 300) (s := fun i => ((e : Int), B, (i : Int), Z, B, bitsOf b, part (cbd e b) i Z, ())) (y := (Z, poly (cbd e b), ())) 256 ?_ ?_ 300 (by omega))
  · intro i hi kn
    unfold p_ref13_Cbd_l6_F
    dsimp only
    rw [if_pos (by omega)]
    refine (iter_run (F := p_ref13_Cbd_l10_F 300) (s := fun k => ((e : Int), B, (i : Int), cbdTo e b i k, (i : Int), (e : Int), (k : Int), Z, B, bitsOf b, part (cbd e b) i Z, ()))
      (y := ((e : Int), B, (i : Int), cbdTo e b i e, (i : Int), Z, B, bitsOf b, part (cbd e b) i Z, ())) e ?_ ?_ 300 (by omega)).trans ?_
    · intro k hk kn
      have hc := cbdTo_b e b i k
      have h1 := bitAt_b b (2 * e * i + k)
      have h2 := bitAt_b b (2 * e * i + e + k)
      have e1 : ((2 : Int) * e) * i + k = ((2 * e * i + k : Nat) : Int) := by simp
      have e2 : ((2 : Int) * e) * i + e + k = ((2 * e * i + e + k : Nat) : Int) := by simp
      have hm : 2 * e * i + e + k < 8 * b.length := by rcases he with rfl | rfl <;> omega
      have hm2 : 2 * e * i ≤ 3000 := by rcases he with rfl | rfl <;> omega
      have e3 : ((2 : Int) * e) * i = ((2 * e * i : Nat) : Int) := by simp
      have es := cbdTo_succ e b i k
      unfold p_ref13_Cbd_l10_F
      dsimp only
      rw [if_pos (by omega), wrap_i64 (x := 2 * (e : Int)) (by omega) (by omega), wrap_i64 (x := 2 * (e : Int) * i) (by omega) (by omega), wrap_i64 (x := 2 * (e : Int) * i + k) (by omega) (by omega),
        wrap_i64 (x := 2 * (e : Int) * i + e) (by omega) (by omega), wrap_i64 (x := 2 * (e : Int) * i + e + k) (by omega) (by omega), e1, e2]
      rw [wrap_i64 (x := (k : Int) + 1) (by omega) (by omega), wrap_i64 (x := cbdTo e b i k + 1) (by omega) (by omega), wrap_i64 (x := cbdTo e b i k - 1) (by omega) (by omega), wrap_i64 (x := cbdTo e b i k + 1 - 1) (by omega) (by omega)]
      simp only [Int.toNat_natCast]
      have q1 := bitsOf_getD (b := b) (t := 2 * e * i + k) (by omega)
      have q2 := bitsOf_getD (b := b) (t := 2 * e * i + e + k) (by omega)
      simp only [q1, q2]
      simp (disch := omega) only [if_pos]
      rcases Int.lt_or_eq_of_le h1.1 with ha | ha <;> rcases Int.lt_or_eq_of_le h2.1 with hc' | hc'
      · rw [if_pos (by omega), if_pos (by omega), show cbdTo e b i k + 1 - 1 = cbdTo e b i (k + 1) by omega, Int.natCast_add]; rfl
      · rw [if_pos (by omega), if_neg (by omega), show cbdTo e b i k + 1 = cbdTo e b i (k + 1) by omega, Int.natCast_add]; rfl
      · rw [if_neg (by omega), if_pos (by omega), show cbdTo e b i k - 1 = cbdTo e b i (k + 1) by omega, Int.natCast_add]; rfl
      · rw [if_neg (by omega), if_neg (by omega), show cbdTo e b i k = cbdTo e b i (k + 1) by omega, Int.natCast_add]; rfl
    · intro kn
      unfold p_ref13_Cbd_l10_F
      dsimp only
      rw [if_neg (by omega)]
    · have hc := cbdTo_b e b i e
      dsimp only
      rw [if_pos (by omega), if_pos (by omega), if_pos (by omega), Int.toNat_natCast, wrap_i64 (by omega) (by omega), tmod_pos (by omega), wrap_u16 (by omega) (by omega)]
      rw [part_set' (h := cbd e b) (i := i) (a := Z) (z := cbdTo e b i e % 3329) (by omega) rfl, Int.natCast_add]
      rfl
  · intro kn
    unfold p_ref13_Cbd_l6_F
    dsimp only
    rw [if_neg (by omega), part_all hZ]
    rfl
theorem q_ref13_Cbd : ∀ x r, g_ref13_Cbd x = some r → ∃ N, p_ref13_Cbd N x = some r := by
  refine Spec_of (ks := p_ref13_Cbd_ks) (rs := p_ref13_Cbd_rs) fun x hw _ => ⟨300, ?_⟩
  obtain ⟨(d : Int), (b : List Int), u⟩ := x
  obtain ⟨hd, hb⟩ := wf_ib.1 hw
  unfold p_ref13_Cbd
  have hZ : (List.replicate 256 (0 : Int)).length = 256 := List.length_replicate ..
  dsimp only
  show _ = some (fCbd d b)
  have hz : zeros = List.replicate 256 0 := rfl
  unfold fCbd
  rw [hz]
  generalize List.replicate 256 (0 : Int) = Z at hZ ⊢
  by_cases h2 : d = 2
  · subst h2
    rw [if_neg (by omega), wrap_i64 (by omega) (by omega)]
    by_cases hl : (b.length : Int) = 64 * 2
    · rw [if_neg (by omega), if_pos ⟨.inl rfl, hl⟩, at_Bits (by omega) hb.2]
      exact (refcbd_loop (e := 2) (.inl rfl) (by omega) Z hZ).trans rfl
    · rw [if_pos hl, if_neg fun h => hl h.2]
  · rw [if_pos h2]
    by_cases h3 : d = 3
    · subst h3
      rw [if_neg (by omega), wrap_i64 (by omega) (by omega)]
      by_cases hl : (b.length : Int) = 64 * 3
      · rw [if_neg (by omega), if_pos ⟨.inr rfl, hl⟩, at_Bits (by omega) hb.2]
        exact (refcbd_loop (e := 3) (.inr rfl) (by omega) Z hZ).trans rfl
      · rw [if_pos hl, if_neg fun h => hl h.2]
    · rw [if_pos h3, if_neg fun h => by omega]
theorem q_law13_RingCbds : ∀ x r, g_law13_RingCbds x = some r → ∃ N, p_law13_RingCbds N x = some r := by
  refine Spec_of (ks := p_law13_RingCbds_ks) (rs := p_law13_RingCbds_rs) fun x hw _ => ⟨0, ?_⟩
  obtain ⟨(d : Int), (b : List Int), u⟩ := x
  have h1 : g_ring_Cbd (d, b, ()) = some (fCbd d b) := Spec_at (ks := p_ring_Cbd_ks) (rs := p_ring_Cbd_rs) hw trivial
  have h2 : g_ref13_Cbd (d, b, ()) = some (fCbd d b) := Spec_at (ks := p_ref13_Cbd_ks) (rs := p_ref13_Cbd_rs) hw trivial
  unfold p_law13_RingCbds
  dsimp only
  rw [h1, h2, at18]
  simp only [Option.bind_some]
  simp only [if_true, decide_true]
end Go.Ax.TryP
/-! Printed by program (wires.py): the functions keep their signatures. -/
namespace Go.Ax.TryP
theorem s_ref01_Bits : SigOk Go.Proofs.Try.prog 50 ⟨[.sl (.int .u8)], [.sl .bool], g_ref01_Bits⟩ := p_ref01_Bits_ok q_ref01_Bits
theorem s_ref01_FromBits : SigOk Go.Proofs.Try.prog 52 ⟨[.sl .bool], [.sl (.int .u8)], g_ref01_FromBits⟩ := p_ref01_FromBits_ok q_ref01_FromBits
theorem s_ref01_Equal : SigOk Go.Proofs.Try.prog 34 ⟨[.sl (.int .u8), .sl (.int .u8)], [.bool], g_ref01_Equal⟩ := p_ref01_Equal_ok q_ref01_Equal
theorem s_ring_Cbd_1 : SigOk Go.Proofs.Try.prog 49 ⟨[.int .i64, .rp (.sl (.int .u8))], [.int .u16], g_ring_Cbd_1⟩ := p_ring_Cbd_1_ok q_ring_Cbd_1
theorem s_ring_Cbd : SigOk Go.Proofs.Try.prog 22 ⟨[.int .i64, .sl (.int .u8)], [.xs (.int .u16) 256, .int .i64], g_ring_Cbd⟩ := p_ring_Cbd_ok s_ring_Cbd_1 q_ring_Cbd
theorem s_ref13_Cbd : SigOk Go.Proofs.Try.prog 23 ⟨[.int .i64, .sl (.int .u8)], [.xs (.int .u16) 256, .int .i64], g_ref13_Cbd⟩ := p_ref13_Cbd_ok s_ref01_Bits q_ref13_Cbd
theorem s_law13_RingCbds : SigOk Go.Proofs.Try.prog 6 ⟨[.int .i64, .sl (.int .u8)], [.bool], g_law13_RingCbds⟩ := p_law13_RingCbds_ok s_ring_Cbd s_ref13_Cbd s_law13_live q_law13_RingCbds
end Go.Ax.TryP
