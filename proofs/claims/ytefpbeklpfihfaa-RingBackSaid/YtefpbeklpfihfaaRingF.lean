/- A part of the proof: RingP8, RingQ18, RingQ19, RingW4. -/
import Derived.Test.YtefpbeklpfihfaaRingE
/-! Printed by program (gen.py). -/
set_option linter.unusedVariables false
namespace Go.Ax.TryP
/-! livery/ring.Encode -/
noncomputable def p_ring_Encode_E : AE := AE.of [(5, ty5), (22, ty22), (24, ty24), (34, ty34)] [(37, ⟨[.xs (.int .u16) 256], [.xs (.int .u16) 256], g_ring_Reduce⟩)]
noncomputable def p_ring_Encode_H : Hints := [(7, [0, 6, 24, 25]), (10, [0, 6, 7, 8, 24, 25, 29, 30]), (2000000, [6]), (2000001, [0, 6, 24, 25]), (2000002, [0, 6, 24, 25]), (2000003, [0, 6, 7, 8, 24, 25, 29, 30]), (3000000, [4, 5])]
noncomputable def p_ring_Encode_c : Code := (Go.Proofs.Try.f30).body.getD .skip
noncomputable def p_ring_Encode_l10_S : Shape where
  h := { tmps := [.sc (.int .i64), .any, .any, .any, .any, .any, .sc (.vec 0 none 1), .sc (.int .i64), .sc (.int .u16), .any, .any, .any, .any, .any, .any, .any, .any, .any, .any, .any, .any, .any, .any, .any, .agg [.xs (.int .u16) (some 256)], .sc (.int .i64), .any, .any, .any, .sc (.int .i64), .sc (.int .i64), .any, .any, .any, .any, .any, .any, .any, .any, .any, .any, .any, .any, .any, .any, .any, .any, .any, .any, .any, .any, .any, .any, .any, .any, .any], mem := [.live [.xs (.int .u8) none] true] }
  ks := [.int, .nat, .int, .int, .xs, .int, .int, .int, .nat, .xs]
  st := fun x => { tmps := [.one (.sc (.int .i64 x.1)), .one .any, .one .any, .one .any, .one .any, .one .any, .one (.sc (.vec 0 x.2.1 1)), .one (.sc (.int .i64 x.2.2.1)), .one (.sc (.int .u16 x.2.2.2.1)), .one .any, .one .any, .one .any, .one .any, .one .any, .one .any, .one .any, .one .any, .one .any, .one .any, .one .any, .one .any, .one .any, .one .any, .one .any, .one (.agg [.xs (.int .u16) 256 x.2.2.2.2.1]), .one (.sc (.int .i64 x.2.2.2.2.2.1)), .one .any, .one .any, .one .any, .one (.sc (.int .i64 x.2.2.2.2.2.2.1)), .one (.sc (.int .i64 x.2.2.2.2.2.2.2.1)), .one .any, .one .any, .one .any, .one .any, .one .any, .one .any, .one .any, .one .any, .one .any, .one .any, .one .any, .one .any, .one .any, .one .any, .one .any, .one .any, .one .any, .one .any, .one .any, .one .any, .one .any, .one .any, .one .any, .one .any, .one .any], mem := [.live { segs := [.xs (.int .u8) x.2.2.2.2.2.2.2.2.1 x.2.2.2.2.2.2.2.2.2.1], own := true }] }
noncomputable def p_ring_Encode_l10_F (N : Nat) (β : Type) (x : (Int × Nat × Int × Int × List Int × Int × Int × Int × Nat × List Int × Unit)) (kn : (Int × Nat × Int × Int × List Int × Int × Int × Int × Nat × List Int × Unit) → Option β) (ke : ((Int × Nat × List Int × Int × Nat × List Int × Unit)) → Option β) : Option β :=
  if (x.2.2.2.2.2.2.2.1 < x.2.2.2.2.2.2.1) then
    if 0 ≤ (IntKind.i64.wrap (Int.tdiv (IntKind.i64.wrap ((IntKind.i64.wrap (x.2.2.1 * x.1)) + x.2.2.2.2.2.2.2.1)) (8:Int))) then (
    if (IntKind.i64.wrap (Int.tdiv (IntKind.i64.wrap ((IntKind.i64.wrap (x.2.2.1 * x.1)) + x.2.2.2.2.2.2.2.1)) (8:Int))) < ((x.2.1 : Nat) : Int) then (
    if ((IntKind.i64.wrap (Int.tdiv (IntKind.i64.wrap ((IntKind.i64.wrap (x.2.2.1 * x.1)) + x.2.2.2.2.2.2.2.1)) (8:Int))).toNat) < x.2.2.2.2.2.2.2.2.1 then (
    if x.2.2.2.2.2.2.2.1 < 0 then none else (
    if (Int.tmod (IntKind.i64.wrap ((IntKind.i64.wrap (x.2.2.1 * x.1)) + x.2.2.2.2.2.2.2.1)) (8:Int)) < 0 then none else (
    if 0 ≤ (IntKind.i64.wrap (Int.tdiv (IntKind.i64.wrap ((IntKind.i64.wrap (x.2.2.1 * x.1)) + x.2.2.2.2.2.2.2.1)) (8:Int))) then (
    if (IntKind.i64.wrap (Int.tdiv (IntKind.i64.wrap ((IntKind.i64.wrap (x.2.2.1 * x.1)) + x.2.2.2.2.2.2.2.1)) (8:Int))) < ((x.2.1 : Nat) : Int) then (
    if ((IntKind.i64.wrap (Int.tdiv (IntKind.i64.wrap ((IntKind.i64.wrap (x.2.2.1 * x.1)) + x.2.2.2.2.2.2.2.1)) (8:Int))).toNat) < x.2.2.2.2.2.2.2.2.1 then (
    kn (x.1, x.2.1, x.2.2.1, x.2.2.2.1, x.2.2.2.2.1, x.2.2.2.2.2.1, x.2.2.2.2.2.2.1, (IntKind.i64.wrap (x.2.2.2.2.2.2.2.1 + (1:Int))), x.2.2.2.2.2.2.2.2.1, (List.set x.2.2.2.2.2.2.2.2.2.1 ((IntKind.i64.wrap (Int.tdiv (IntKind.i64.wrap ((IntKind.i64.wrap (x.2.2.1 * x.1)) + x.2.2.2.2.2.2.2.1)) (8:Int))).toNat) (ior IntKind.u8 (List.getD x.2.2.2.2.2.2.2.2.2.1 ((IntKind.i64.wrap (Int.tdiv (IntKind.i64.wrap ((IntKind.i64.wrap (x.2.2.1 * x.1)) + x.2.2.2.2.2.2.2.1)) (8:Int))).toNat) 0) (ishl IntKind.u8 (IntKind.u8.wrap (iand IntKind.u16 (ishr IntKind.u16 x.2.2.2.1 x.2.2.2.2.2.2.2.1) (1:Int))) (Int.tmod (IntKind.i64.wrap ((IntKind.i64.wrap (x.2.2.1 * x.1)) + x.2.2.2.2.2.2.2.1)) (8:Int))))), ())) else none) else none) else none))) else none) else none) else none
  else
    ke (x.1, x.2.1, x.2.2.2.2.1, x.2.2.2.2.2.1, x.2.2.2.2.2.2.2.2.1, x.2.2.2.2.2.2.2.2.2.1, ())
noncomputable def p_ring_Encode_l10_go : Go' ((Int × Nat × List Int × Int × Nat × List Int × Unit)) := fun y K => K (.exit 2) { tmps := [.one (.sc (.int .i64 y.1)), .one .any, .one .any, .one .any, .one .any, .one .any, .one (.sc (.vec 0 y.2.1 1)), .one .any, .one .any, .one .any, .one .any, .one .any, .one .any, .one .any, .one .any, .one .any, .one .any, .one .any, .one .any, .one .any, .one .any, .one .any, .one .any, .one .any, .one (.agg [.xs (.int .u16) 256 y.2.2.1]), .one (.sc (.int .i64 y.2.2.2.1)), .one .any, .one .any, .one .any, .one .any, .one .any, .one .any, .one .any, .one .any, .one .any, .one .any, .one .any, .one .any, .one .any, .one .any, .one .any, .one .any, .one .any, .one .any, .one .any, .one .any, .one .any, .one .any, .one .any, .one .any, .one .any, .one .any, .one .any, .one .any, .one .any, .one .any], mem := [.live { segs := [.xs (.int .u8) y.2.2.2.2.1 y.2.2.2.2.2.1], own := true }] }
noncomputable def p_ring_Encode_l10_L (N : Nat) : LT := upd (LT.nil) 10 (loopE p_ring_Encode_l10_S N (p_ring_Encode_l10_F N) p_ring_Encode_l10_go)
theorem p_ring_Encode_l10_ok (N : Nat) : OkAll p_ring_Encode_E p_ring_Encode_H N (p_ring_Encode_l10_L N) (subs p_ring_Encode_c) :=
  addLoop (c := theLoop 10 p_ring_Encode_c) (OkAll.nil) (by kernel_rfl) (fun x => by kernel_rfl) (fun β x kn ke => by kernel_rfl)
noncomputable def p_ring_Encode_l7_S : Shape where
  h := { tmps := [.sc (.int .i64), .any, .any, .any, .any, .any, .sc (.vec 0 none 1), .any, .any, .any, .any, .any, .any, .any, .any, .any, .any, .any, .any, .any, .any, .any, .any, .any, .agg [.xs (.int .u16) (some 256)], .sc (.int .i64), .any, .any, .any, .any, .any, .any, .any, .any, .any, .any, .any, .any, .any, .any, .any, .any, .any, .any, .any, .any, .any, .any, .any, .any, .any, .any, .any, .any, .any, .any], mem := [.live [.xs (.int .u8) none] true] }
  ks := [.int, .nat, .xs, .int, .nat, .xs]
  st := fun x => { tmps := [.one (.sc (.int .i64 x.1)), .one .any, .one .any, .one .any, .one .any, .one .any, .one (.sc (.vec 0 x.2.1 1)), .one .any, .one .any, .one .any, .one .any, .one .any, .one .any, .one .any, .one .any, .one .any, .one .any, .one .any, .one .any, .one .any, .one .any, .one .any, .one .any, .one .any, .one (.agg [.xs (.int .u16) 256 x.2.2.1]), .one (.sc (.int .i64 x.2.2.2.1)), .one .any, .one .any, .one .any, .one .any, .one .any, .one .any, .one .any, .one .any, .one .any, .one .any, .one .any, .one .any, .one .any, .one .any, .one .any, .one .any, .one .any, .one .any, .one .any, .one .any, .one .any, .one .any, .one .any, .one .any, .one .any, .one .any, .one .any, .one .any, .one .any, .one .any], mem := [.live { segs := [.xs (.int .u8) x.2.2.2.2.1 x.2.2.2.2.2.1], own := true }] }
noncomputable def p_ring_Encode_l7_F (N : Nat) (β : Type) (x : (Int × Nat × List Int × Int × Nat × List Int × Unit)) (kn : (Int × Nat × List Int × Int × Nat × List Int × Unit) → Option β) (ke : ((Nat × Nat × List Int × Unit)) → Option β) : Option β :=
  if (x.2.2.2.1 < (256:Int)) then
    if 0 ≤ x.2.2.2.1 then (
    if x.2.2.2.1 < 256 then (
    if (x.2.2.2.1.toNat) < 256 then (
    iter (p_ring_Encode_l10_F N) N (x.1, x.2.1, x.2.2.2.1, (List.getD x.2.2.1 (x.2.2.2.1.toNat) 0), x.2.2.1, x.2.2.2.1, x.1, (0:Int), x.2.2.2.2.1, x.2.2.2.2.2.1, ()) fun y2 => (
    kn (y2.1, y2.2.1, y2.2.2.1, (IntKind.i64.wrap (y2.2.2.2.1 + (1:Int))), y2.2.2.2.2.1, y2.2.2.2.2.2.1, ()))) else none) else none) else none
  else
    ke (x.2.1, x.2.2.2.2.1, x.2.2.2.2.2.1, ())
noncomputable def p_ring_Encode_l7_go : Go' ((Nat × Nat × List Int × Unit)) := fun y K => K (.exit 0) { tmps := [.one .any, .one .any, .one .any, .one .any, .one .any, .one .any, .one (.sc (.vec 0 y.1 1)), .one .any, .one .any, .one .any, .one .any, .one .any, .one .any, .one .any, .one .any, .one .any, .one .any, .one .any, .one .any, .one .any, .one .any, .one .any, .one .any, .one .any, .one .any, .one .any, .one .any, .one .any, .one .any, .one .any, .one .any, .one .any, .one .any, .one .any, .one .any, .one .any, .one .any, .one .any, .one .any, .one .any, .one .any, .one .any, .one .any, .one .any, .one .any, .one .any, .one .any, .one .any, .one .any, .one .any, .one .any, .one .any, .one .any, .one .any, .one .any, .one .any], mem := [.live { segs := [.xs (.int .u8) y.2.1 y.2.2.1], own := true }] }
noncomputable def p_ring_Encode_l7_L (N : Nat) : LT := upd (p_ring_Encode_l10_L N) 7 (loopE p_ring_Encode_l7_S N (p_ring_Encode_l7_F N) p_ring_Encode_l7_go)
theorem p_ring_Encode_l7_ok (N : Nat) : OkAll p_ring_Encode_E p_ring_Encode_H N (p_ring_Encode_l7_L N) (subs p_ring_Encode_c) :=
  addLoop (c := theLoop 7 p_ring_Encode_c) (p_ring_Encode_l10_ok N) (by kernel_rfl) (fun x => by kernel_rfl) (fun β x kn ke => by kernel_rfl)
abbrev p_ring_Encode_ks : List Kd := [.int .i64, .xs (.int .u16) 256]
abbrev p_ring_Encode_rs : List Kd := [.sl (.int .u8), .int .i64]
noncomputable def p_ring_Encode (N : Nat) (x : Int × List Int × Unit) : Option (List Int × Int) :=
  if (x.1 < (1:Int)) then
    some ([], (1:Int))
  else
    if (x.1 > (12:Int)) then
      some ([], (1:Int))
    else
      if (x.1 = (12:Int)) then
        (g_ring_Reduce (x.2.1, ())).bind fun r1 => (
        if 0 ≤ (IntKind.i64.wrap ((32:Int) * x.1)) then (
        if (IntKind.i64.wrap ((32:Int) * x.1)) = (IntKind.i64.wrap ((32:Int) * x.1)) then (
        if (IntKind.i64.wrap ((32:Int) * x.1)) * 1 ≤ 281474976710656 then (
        iter (p_ring_Encode_l7_F N) N (x.1, ((IntKind.i64.wrap ((32:Int) * x.1)).toNat), r1, (0:Int), ((IntKind.i64.wrap ((32:Int) * x.1)).toNat), (List.replicate ((IntKind.i64.wrap ((32:Int) * x.1)).toNat) 0), ()) fun y3 => (
        some (y3.2.2.1, (0:Int)))) else none) else none) else none)
      else
        if 0 ≤ (IntKind.i64.wrap ((32:Int) * x.1)) then (
        if (IntKind.i64.wrap ((32:Int) * x.1)) = (IntKind.i64.wrap ((32:Int) * x.1)) then (
        if (IntKind.i64.wrap ((32:Int) * x.1)) * 1 ≤ 281474976710656 then (
        iter (p_ring_Encode_l7_F N) N (x.1, ((IntKind.i64.wrap ((32:Int) * x.1)).toNat), x.2.1, (0:Int), ((IntKind.i64.wrap ((32:Int) * x.1)).toNat), (List.replicate ((IntKind.i64.wrap ((32:Int) * x.1)).toNat) 0), ()) fun y4 => (
        some (y4.2.2.1, (0:Int)))) else none) else none) else none
theorem p_ring_Encode_eq (N : Nat) (x : Ds [.int .i64, .xs (.int .u16) 256]) : funL p_ring_Encode_E p_ring_Encode_H (p_ring_Encode_l7_L N) N Go.Proofs.Try.f30 p_ring_Encode_c [.int .i64, .xs (.int .u16) 256] [.sl (.int .u8), .int .i64] x = p_ring_Encode N x := by kernel_rfl
theorem p_ring_Encode_Eok (he_ring_Reduce : SigOk Go.Proofs.Try.prog 37 ⟨[.xs (.int .u16) 256], [.xs (.int .u16) 256], g_ring_Reduce⟩) : p_ring_Encode_E.Ok Go.Proofs.Try.prog := AE.of_ok (all_cons ty5_ok (all_cons ty22_ok (all_cons ty24_ok (all_cons ty34_ok all_nil)))) (all_cons ⟨he_ring_Reduce, enters_ring_Reduce⟩ all_nil)
theorem p_ring_Encode_ok (he_ring_Reduce : SigOk Go.Proofs.Try.prog 37 ⟨[.xs (.int .u16) 256], [.xs (.int .u16) 256], g_ring_Reduce⟩) {g : Ds [.int .i64, .xs (.int .u16) 256] → Option (Rs [.sl (.int .u8), .int .i64])} (hg : ∀ x r, g x = some r → ∃ N, p_ring_Encode N x = some r) : SigOk Go.Proofs.Try.prog 30 ⟨[.int .i64, .xs (.int .u16) 256], [.sl (.int .u8), .int .i64], g⟩ :=
  fun_of (E := p_ring_Encode_E) (H := p_ring_Encode_H) (L := fun N => p_ring_Encode_l7_L N) (c := p_ring_Encode_c) (ks := p_ring_Encode_ks) (rs := p_ring_Encode_rs) (F := p_ring_Encode) (p_ring_Encode_Eok he_ring_Reduce) mix Go.Proofs.Try.func30 (by kernel_rfl) (fun N => p_ring_Encode_l7_ok N) p_ring_Encode_eq hg

/-! livery/liveryref13.Encode -/
noncomputable def p_ref13_Encode_E : AE := AE.of [(3, ty3), (4, ty4), (22, ty22), (24, ty24), (52, ty52)] [(45, ⟨[.int .i64], [.int .i64], g_ref13_width⟩), (52, ⟨[.sl .bool], [.sl (.int .u8)], g_ref01_FromBits⟩)]
noncomputable def p_ref13_Encode_H : Hints := [(5, [0, 3, 6, 16]), (11, [0, 3, 6, 8, 16, 33, 34]), (2000000, [6]), (2000001, [0, 3, 6, 16]), (2000002, [0, 3, 6, 16]), (2000003, [0, 3, 6, 8, 16, 33, 34]), (3000000, [4, 5])]
noncomputable def p_ref13_Encode_c : Code := (Go.Proofs.Try.f31).body.getD .skip
noncomputable def p_ref13_Encode_l11_S : Shape where
  h := { tmps := [.sc (.int .i64), .any, .any, .sc (.ptr 0 0 false), .any, .any, .sc (.vec 1 none 1), .any, .sc (.int .i64), .any, .any, .any, .any, .any, .any, .any, .sc (.int .i64), .any, .any, .any, .any, .any, .any, .any, .any, .any, .any, .any, .any, .any, .any, .any, .any, .sc (.int .i64), .sc (.int .i64), .any, .any, .any, .any, .any, .any, .any, .any, .any, .any, .any, .any, .any], mem := [.live [.xs (.int .u16) (some 256)] true, .live [.xs .bool none] true] }
  ks := [.int, .nat, .int, .int, .int, .int, .xs, .nat, .xs]
  st := fun x => { tmps := [.one (.sc (.int .i64 x.1)), .one .any, .one .any, .one (.sc (.ptr 0 0 none)), .one .any, .one .any, .one (.sc (.vec 1 x.2.1 1)), .one .any, .one (.sc (.int .i64 x.2.2.1)), .one .any, .one .any, .one .any, .one .any, .one .any, .one .any, .one .any, .one (.sc (.int .i64 x.2.2.2.1)), .one .any, .one .any, .one .any, .one .any, .one .any, .one .any, .one .any, .one .any, .one .any, .one .any, .one .any, .one .any, .one .any, .one .any, .one .any, .one .any, .one (.sc (.int .i64 x.2.2.2.2.1)), .one (.sc (.int .i64 x.2.2.2.2.2.1)), .one .any, .one .any, .one .any, .one .any, .one .any, .one .any, .one .any, .one .any, .one .any, .one .any, .one .any, .one .any, .one .any], mem := [.live { segs := [.xs (.int .u16) 256 x.2.2.2.2.2.2.1], own := true }, .live { segs := [.xs .bool x.2.2.2.2.2.2.2.1 x.2.2.2.2.2.2.2.2.1], own := true }] }
noncomputable def p_ref13_Encode_l11_F (N : Nat) (β : Type) (x : (Int × Nat × Int × Int × Int × Int × List Int × Nat × List Int × Unit)) (kn : (Int × Nat × Int × Int × Int × Int × List Int × Nat × List Int × Unit) → Option β) (ke : ((Int × Nat × Int × List Int × Nat × List Int × Unit)) → Option β) : Option β :=
  if (x.2.2.2.2.2.1 < x.2.2.2.2.1) then
    if (x.2.1 + 1) * 1 ≤ 140737488355328 then (
    kn (x.1, (x.2.1 + 1), (IntKind.i64.wrap (Int.tdiv x.2.2.1 (2:Int))), x.2.2.2.1, x.2.2.2.2.1, (IntKind.i64.wrap (x.2.2.2.2.2.1 + (1:Int))), x.2.2.2.2.2.2.1, (x.2.2.2.2.2.2.2.1 + 1), (x.2.2.2.2.2.2.2.2.1 ++ (List.set (List.replicate 1 0) 0 (if ((Int.tmod x.2.2.1 (2:Int)) = (1:Int)) then (1:Int) else 0))), ())) else none
  else
    ke (x.1, x.2.1, x.2.2.2.1, x.2.2.2.2.2.2.1, x.2.2.2.2.2.2.2.1, x.2.2.2.2.2.2.2.2.1, ())
noncomputable def p_ref13_Encode_l11_go : Go' ((Int × Nat × Int × List Int × Nat × List Int × Unit)) := fun y K => K (.exit 2) { tmps := [.one (.sc (.int .i64 y.1)), .one .any, .one .any, .one (.sc (.ptr 0 0 none)), .one .any, .one .any, .one (.sc (.vec 1 y.2.1 1)), .one .any, .one .any, .one .any, .one .any, .one .any, .one .any, .one .any, .one .any, .one .any, .one (.sc (.int .i64 y.2.2.1)), .one .any, .one .any, .one .any, .one .any, .one .any, .one .any, .one .any, .one .any, .one .any, .one .any, .one .any, .one .any, .one .any, .one .any, .one .any, .one .any, .one .any, .one .any, .one .any, .one .any, .one .any, .one .any, .one .any, .one .any, .one .any, .one .any, .one .any, .one .any, .one .any, .one .any, .one .any], mem := [.live { segs := [.xs (.int .u16) 256 y.2.2.2.1], own := true }, .live { segs := [.xs .bool y.2.2.2.2.1 y.2.2.2.2.2.1], own := true }] }
noncomputable def p_ref13_Encode_l11_L (N : Nat) : LT := upd (LT.nil) 11 (loopE p_ref13_Encode_l11_S N (p_ref13_Encode_l11_F N) p_ref13_Encode_l11_go)
theorem p_ref13_Encode_l11_ok (N : Nat) : OkAll p_ref13_Encode_E p_ref13_Encode_H N (p_ref13_Encode_l11_L N) (subs p_ref13_Encode_c) :=
  addLoop (c := theLoop 11 p_ref13_Encode_c) (OkAll.nil) (by kernel_rfl) (fun x => by kernel_rfl) (fun β x kn ke => by kernel_rfl)
noncomputable def p_ref13_Encode_l5_S : Shape where
  h := { tmps := [.sc (.int .i64), .any, .any, .sc (.ptr 0 0 false), .any, .any, .sc (.vec 1 none 1), .any, .any, .any, .any, .any, .any, .any, .any, .any, .sc (.int .i64), .any, .any, .any, .any, .any, .any, .any, .any, .any, .any, .any, .any, .any, .any, .any, .any, .any, .any, .any, .any, .any, .any, .any, .any, .any, .any, .any, .any, .any, .any, .any], mem := [.live [.xs (.int .u16) (some 256)] true, .live [.xs .bool none] true] }
  ks := [.int, .nat, .int, .xs, .nat, .xs]
  st := fun x => { tmps := [.one (.sc (.int .i64 x.1)), .one .any, .one .any, .one (.sc (.ptr 0 0 none)), .one .any, .one .any, .one (.sc (.vec 1 x.2.1 1)), .one .any, .one .any, .one .any, .one .any, .one .any, .one .any, .one .any, .one .any, .one .any, .one (.sc (.int .i64 x.2.2.1)), .one .any, .one .any, .one .any, .one .any, .one .any, .one .any, .one .any, .one .any, .one .any, .one .any, .one .any, .one .any, .one .any, .one .any, .one .any, .one .any, .one .any, .one .any, .one .any, .one .any, .one .any, .one .any, .one .any, .one .any, .one .any, .one .any, .one .any, .one .any, .one .any, .one .any, .one .any], mem := [.live { segs := [.xs (.int .u16) 256 x.2.2.2.1], own := true }, .live { segs := [.xs .bool x.2.2.2.2.1 x.2.2.2.2.2.1], own := true }] }
noncomputable def p_ref13_Encode_l5_F (N : Nat) (β : Type) (x : (Int × Nat × Int × List Int × Nat × List Int × Unit)) (kn : (Int × Nat × Int × List Int × Nat × List Int × Unit) → Option β) (ke : ((Nat × Nat × List Int × Unit)) → Option β) : Option β :=
  if (x.2.2.1 < (256:Int)) then
    if 0 ≤ x.2.2.1 then (
    if x.2.2.1 < 256 then (
    if (x.2.2.1.toNat) < 256 then (
    (g_ref13_width (x.1, ())).bind fun r1 => (
    if r1 = 0 then none else (
    if (x.1 = (12:Int)) then
      if 0 ≤ x.2.2.1 then (
      if x.2.2.1 < 256 then (
      if (x.2.2.1.toNat) < 256 then (
      iter (p_ref13_Encode_l11_F N) N (x.1, x.2.1, (Int.tmod (IntKind.i64.wrap (List.getD x.2.2.2.1 (x.2.2.1.toNat) 0)) (3329:Int)), x.2.2.1, x.1, (0:Int), x.2.2.2.1, x.2.2.2.2.1, x.2.2.2.2.2.1, ()) fun y2 => (
      kn (y2.1, y2.2.1, (IntKind.i64.wrap (y2.2.2.1 + (1:Int))), y2.2.2.2.1, y2.2.2.2.2.1, y2.2.2.2.2.2.1, ()))) else none) else none) else none
    else
      iter (p_ref13_Encode_l11_F N) N (x.1, x.2.1, (Int.tmod (IntKind.i64.wrap (List.getD x.2.2.2.1 (x.2.2.1.toNat) 0)) r1), x.2.2.1, x.1, (0:Int), x.2.2.2.1, x.2.2.2.2.1, x.2.2.2.2.2.1, ()) fun y3 => (
      kn (y3.1, y3.2.1, (IntKind.i64.wrap (y3.2.2.1 + (1:Int))), y3.2.2.2.1, y3.2.2.2.2.1, y3.2.2.2.2.2.1, ()))))) else none) else none) else none
  else
    ke (x.2.1, x.2.2.2.2.1, x.2.2.2.2.2.1, ())
noncomputable def p_ref13_Encode_l5_go : Go' ((Nat × Nat × List Int × Unit)) := fun y K => K (.exit 0) { tmps := [.one .any, .one .any, .one .any, .one .any, .one .any, .one .any, .one (.sc (.vec 0 y.1 1)), .one .any, .one .any, .one .any, .one .any, .one .any, .one .any, .one .any, .one .any, .one .any, .one .any, .one .any, .one .any, .one .any, .one .any, .one .any, .one .any, .one .any, .one .any, .one .any, .one .any, .one .any, .one .any, .one .any, .one .any, .one .any, .one .any, .one .any, .one .any, .one .any, .one .any, .one .any, .one .any, .one .any, .one .any, .one .any, .one .any, .one .any, .one .any, .one .any, .one .any, .one .any], mem := [.live { segs := [.xs .bool y.2.1 y.2.2.1], own := true }] }
noncomputable def p_ref13_Encode_l5_L (N : Nat) : LT := upd (p_ref13_Encode_l11_L N) 5 (loopE p_ref13_Encode_l5_S N (p_ref13_Encode_l5_F N) p_ref13_Encode_l5_go)
theorem p_ref13_Encode_l5_ok (N : Nat) : OkAll p_ref13_Encode_E p_ref13_Encode_H N (p_ref13_Encode_l5_L N) (subs p_ref13_Encode_c) :=
  addLoop (c := theLoop 5 p_ref13_Encode_c) (p_ref13_Encode_l11_ok N) (by kernel_rfl) (fun x => by kernel_rfl) (fun β x kn ke => by kernel_rfl)
abbrev p_ref13_Encode_ks : List Kd := [.int .i64, .xs (.int .u16) 256]
abbrev p_ref13_Encode_rs : List Kd := [.sl (.int .u8), .int .i64]
noncomputable def p_ref13_Encode (N : Nat) (x : Int × List Int × Unit) : Option (List Int × Int) :=
  if (x.1 < (1:Int)) then
    some ([], (1:Int))
  else
    if (x.1 > (12:Int)) then
      some ([], (1:Int))
    else
      iter (p_ref13_Encode_l5_F N) N (x.1, 0, (0:Int), x.2.1, 0, (List.replicate 0 0), ()) fun y4 => (
      (g_ref01_FromBits (y4.2.2.1, ())).bind fun r5 => (
      some (r5, (0:Int))))
theorem p_ref13_Encode_eq (N : Nat) (x : Ds [.int .i64, .xs (.int .u16) 256]) : funL p_ref13_Encode_E p_ref13_Encode_H (p_ref13_Encode_l5_L N) N Go.Proofs.Try.f31 p_ref13_Encode_c [.int .i64, .xs (.int .u16) 256] [.sl (.int .u8), .int .i64] x = p_ref13_Encode N x := by kernel_rfl
theorem p_ref13_Encode_Eok (he_ref13_width : SigOk Go.Proofs.Try.prog 45 ⟨[.int .i64], [.int .i64], g_ref13_width⟩) (he_ref01_FromBits : SigOk Go.Proofs.Try.prog 52 ⟨[.sl .bool], [.sl (.int .u8)], g_ref01_FromBits⟩) : p_ref13_Encode_E.Ok Go.Proofs.Try.prog := AE.of_ok (all_cons ty3_ok (all_cons ty4_ok (all_cons ty22_ok (all_cons ty24_ok (all_cons ty52_ok all_nil))))) (all_cons ⟨he_ref13_width, enters_ref13_width⟩ (all_cons ⟨he_ref01_FromBits, enters_ref01_FromBits⟩ all_nil))
theorem p_ref13_Encode_ok (he_ref13_width : SigOk Go.Proofs.Try.prog 45 ⟨[.int .i64], [.int .i64], g_ref13_width⟩) (he_ref01_FromBits : SigOk Go.Proofs.Try.prog 52 ⟨[.sl .bool], [.sl (.int .u8)], g_ref01_FromBits⟩) {g : Ds [.int .i64, .xs (.int .u16) 256] → Option (Rs [.sl (.int .u8), .int .i64])} (hg : ∀ x r, g x = some r → ∃ N, p_ref13_Encode N x = some r) : SigOk Go.Proofs.Try.prog 31 ⟨[.int .i64, .xs (.int .u16) 256], [.sl (.int .u8), .int .i64], g⟩ :=
  fun_of (E := p_ref13_Encode_E) (H := p_ref13_Encode_H) (L := fun N => p_ref13_Encode_l5_L N) (c := p_ref13_Encode_c) (ks := p_ref13_Encode_ks) (rs := p_ref13_Encode_rs) (F := p_ref13_Encode) (p_ref13_Encode_Eok he_ref13_width he_ref01_FromBits) mix Go.Proofs.Try.func31 (by kernel_rfl) (fun N => p_ref13_Encode_l5_ok N) p_ref13_Encode_eq hg

/-! livery/ring.raw -/
noncomputable def p_ring_raw_E : AE := AE.of [(5, ty5), (22, ty22), (24, ty24), (34, ty34)] []
noncomputable def p_ring_raw_H : Hints := [(3, [0, 1, 4, 5, 9]), (6, [0, 1, 4, 5, 6, 9, 12, 13]), (2000000, [4, 5]), (2000001, [0, 1, 4, 5, 9]), (2000002, [0, 1, 4, 5, 9]), (2000003, [0, 1, 4, 5, 6, 9, 12, 13]), (3000000, [4])]
noncomputable def p_ring_raw_c : Code := (Go.Proofs.Try.f53).body.getD .skip
noncomputable def p_ring_raw_l6_S : Shape where
  h := { tmps := [.sc (.int .i64), .sc (.vec 0 none 1), .any, .any, .sc (.ptr 1 0 false), .sc (.ptr 2 0 false), .sc (.int .i64), .any, .any, .sc (.int .i64), .any, .any, .sc (.int .i64), .sc (.int .i64), .any, .any, .any, .any, .any, .any, .any, .any, .any, .any, .any, .any, .any, .any, .any, .any, .any, .any, .any, .any, .any, .any, .any, .any, .any, .any, .any], mem := [.live [.xs (.int .u8) none] false, .live [.xs (.int .u16) (some 256)] true, .live [.xs (.int .u16) (some 256)] true] }
  ks := [.int, .nat, .int, .int, .int, .int, .nat, .xs, .xs, .xs]
  st := fun x => { tmps := [.one (.sc (.int .i64 x.1)), .one (.sc (.vec 0 x.2.1 1)), .one .any, .one .any, .one (.sc (.ptr 1 0 none)), .one (.sc (.ptr 2 0 none)), .one (.sc (.int .i64 x.2.2.1)), .one .any, .one .any, .one (.sc (.int .i64 x.2.2.2.1)), .one .any, .one .any, .one (.sc (.int .i64 x.2.2.2.2.1)), .one (.sc (.int .i64 x.2.2.2.2.2.1)), .one .any, .one .any, .one .any, .one .any, .one .any, .one .any, .one .any, .one .any, .one .any, .one .any, .one .any, .one .any, .one .any, .one .any, .one .any, .one .any, .one .any, .one .any, .one .any, .one .any, .one .any, .one .any, .one .any, .one .any, .one .any, .one .any, .one .any], mem := [.live { segs := [.xs (.int .u8) x.2.2.2.2.2.2.1 x.2.2.2.2.2.2.2.1], own := false }, .live { segs := [.xs (.int .u16) 256 x.2.2.2.2.2.2.2.2.1], own := true }, .live { segs := [.xs (.int .u16) 256 x.2.2.2.2.2.2.2.2.2.1], own := true }] }
noncomputable def p_ring_raw_l6_F (N : Nat) (β : Type) (x : (Int × Nat × Int × Int × Int × Int × Nat × List Int × List Int × List Int × Unit)) (kn : (Int × Nat × Int × Int × Int × Int × Nat × List Int × List Int × List Int × Unit) → Option β) (ke : ((Int × Nat × Int × Nat × List Int × List Int × List Int × Unit)) → Option β) : Option β :=
  if (x.2.2.2.2.2.1 < x.2.2.2.2.1) then
    if 0 ≤ x.2.2.1 then (
    if x.2.2.1 < 256 then (
    if (x.2.2.1.toNat) < 256 then (
    if 0 ≤ (IntKind.i64.wrap (Int.tdiv (IntKind.i64.wrap ((IntKind.i64.wrap (x.2.2.1 * x.1)) + x.2.2.2.2.2.1)) (8:Int))) then (
    if (IntKind.i64.wrap (Int.tdiv (IntKind.i64.wrap ((IntKind.i64.wrap (x.2.2.1 * x.1)) + x.2.2.2.2.2.1)) (8:Int))) < ((x.2.1 : Nat) : Int) then (
    if ((IntKind.i64.wrap (Int.tdiv (IntKind.i64.wrap ((IntKind.i64.wrap (x.2.2.1 * x.1)) + x.2.2.2.2.2.1)) (8:Int))).toNat) < x.2.2.2.2.2.2.1 then (
    if (Int.tmod (IntKind.i64.wrap ((IntKind.i64.wrap (x.2.2.1 * x.1)) + x.2.2.2.2.2.1)) (8:Int)) < 0 then none else (
    if x.2.2.2.2.2.1 < 0 then none else (
    if 0 ≤ x.2.2.1 then (
    if x.2.2.1 < 256 then (
    if (x.2.2.1.toNat) < 256 then (
    kn (x.1, x.2.1, x.2.2.1, x.2.2.2.1, x.2.2.2.2.1, (IntKind.i64.wrap (x.2.2.2.2.2.1 + (1:Int))), x.2.2.2.2.2.2.1, x.2.2.2.2.2.2.2.1, x.2.2.2.2.2.2.2.2.1, (List.set x.2.2.2.2.2.2.2.2.2.1 (x.2.2.1.toNat) (ior IntKind.u16 (List.getD x.2.2.2.2.2.2.2.2.2.1 (x.2.2.1.toNat) 0) (ishl IntKind.u16 (IntKind.u16.wrap (iand IntKind.u8 (ishr IntKind.u8 (List.getD x.2.2.2.2.2.2.2.1 ((IntKind.i64.wrap (Int.tdiv (IntKind.i64.wrap ((IntKind.i64.wrap (x.2.2.1 * x.1)) + x.2.2.2.2.2.1)) (8:Int))).toNat) 0) (Int.tmod (IntKind.i64.wrap ((IntKind.i64.wrap (x.2.2.1 * x.1)) + x.2.2.2.2.2.1)) (8:Int))) (1:Int))) x.2.2.2.2.2.1))), ())) else none) else none) else none))) else none) else none) else none) else none) else none) else none
  else
    ke (x.1, x.2.1, x.2.2.2.1, x.2.2.2.2.2.2.1, x.2.2.2.2.2.2.2.1, x.2.2.2.2.2.2.2.2.1, x.2.2.2.2.2.2.2.2.2.1, ())
noncomputable def p_ring_raw_l6_go : Go' ((Int × Nat × Int × Nat × List Int × List Int × List Int × Unit)) := fun y K => K (.exit 2) { tmps := [.one (.sc (.int .i64 y.1)), .one (.sc (.vec 0 y.2.1 1)), .one .any, .one .any, .one (.sc (.ptr 1 0 none)), .one (.sc (.ptr 2 0 none)), .one .any, .one .any, .one .any, .one (.sc (.int .i64 y.2.2.1)), .one .any, .one .any, .one .any, .one .any, .one .any, .one .any, .one .any, .one .any, .one .any, .one .any, .one .any, .one .any, .one .any, .one .any, .one .any, .one .any, .one .any, .one .any, .one .any, .one .any, .one .any, .one .any, .one .any, .one .any, .one .any, .one .any, .one .any, .one .any, .one .any, .one .any, .one .any], mem := [.live { segs := [.xs (.int .u8) y.2.2.2.1 y.2.2.2.2.1], own := false }, .live { segs := [.xs (.int .u16) 256 y.2.2.2.2.2.1], own := true }, .live { segs := [.xs (.int .u16) 256 y.2.2.2.2.2.2.1], own := true }] }
noncomputable def p_ring_raw_l6_L (N : Nat) : LT := upd (LT.nil) 6 (loopE p_ring_raw_l6_S N (p_ring_raw_l6_F N) p_ring_raw_l6_go)
theorem p_ring_raw_l6_ok (N : Nat) : OkAll p_ring_raw_E p_ring_raw_H N (p_ring_raw_l6_L N) (subs p_ring_raw_c) :=
  addLoop (c := theLoop 6 p_ring_raw_c) (OkAll.nil) (by kernel_rfl) (fun x => by kernel_rfl) (fun β x kn ke => by kernel_rfl)
noncomputable def p_ring_raw_l3_S : Shape where
  h := { tmps := [.sc (.int .i64), .sc (.vec 0 none 1), .any, .any, .sc (.ptr 1 0 false), .sc (.ptr 2 0 false), .any, .any, .any, .sc (.int .i64), .any, .any, .any, .any, .any, .any, .any, .any, .any, .any, .any, .any, .any, .any, .any, .any, .any, .any, .any, .any, .any, .any, .any, .any, .any, .any, .any, .any, .any, .any, .any], mem := [.live [.xs (.int .u8) none] false, .live [.xs (.int .u16) (some 256)] true, .live [.xs (.int .u16) (some 256)] true] }
  ks := [.int, .nat, .int, .nat, .xs, .xs, .xs]
  st := fun x => { tmps := [.one (.sc (.int .i64 x.1)), .one (.sc (.vec 0 x.2.1 1)), .one .any, .one .any, .one (.sc (.ptr 1 0 none)), .one (.sc (.ptr 2 0 none)), .one .any, .one .any, .one .any, .one (.sc (.int .i64 x.2.2.1)), .one .any, .one .any, .one .any, .one .any, .one .any, .one .any, .one .any, .one .any, .one .any, .one .any, .one .any, .one .any, .one .any, .one .any, .one .any, .one .any, .one .any, .one .any, .one .any, .one .any, .one .any, .one .any, .one .any, .one .any, .one .any, .one .any, .one .any, .one .any, .one .any, .one .any, .one .any], mem := [.live { segs := [.xs (.int .u8) x.2.2.2.1 x.2.2.2.2.1], own := false }, .live { segs := [.xs (.int .u16) 256 x.2.2.2.2.2.1], own := true }, .live { segs := [.xs (.int .u16) 256 x.2.2.2.2.2.2.1], own := true }] }
noncomputable def p_ring_raw_l3_F (N : Nat) (β : Type) (x : (Int × Nat × Int × Nat × List Int × List Int × List Int × Unit)) (kn : (Int × Nat × Int × Nat × List Int × List Int × List Int × Unit) → Option β) (ke : ((List Int × List Int × Unit)) → Option β) : Option β :=
  if (x.2.2.1 < (256:Int)) then
    iter (p_ring_raw_l6_F N) N (x.1, x.2.1, x.2.2.1, x.2.2.1, x.1, (0:Int), x.2.2.2.1, x.2.2.2.2.1, x.2.2.2.2.2.1, x.2.2.2.2.2.2.1, ()) fun y1 => (
    kn (y1.1, y1.2.1, (IntKind.i64.wrap (y1.2.2.1 + (1:Int))), y1.2.2.2.1, y1.2.2.2.2.1, y1.2.2.2.2.2.1, y1.2.2.2.2.2.2.1, ()))
  else
    ke (x.2.2.2.2.2.1, x.2.2.2.2.2.2.1, ())
noncomputable def p_ring_raw_l3_go : Go' ((List Int × List Int × Unit)) := fun y K => K (.exit 0) { tmps := [.one .any, .one .any, .one .any, .one .any, .one (.sc (.ptr 0 0 none)), .one (.sc (.ptr 1 0 none)), .one .any, .one .any, .one .any, .one .any, .one .any, .one .any, .one .any, .one .any, .one .any, .one .any, .one .any, .one .any, .one .any, .one .any, .one .any, .one .any, .one .any, .one .any, .one .any, .one .any, .one .any, .one .any, .one .any, .one .any, .one .any, .one .any, .one .any, .one .any, .one .any, .one .any, .one .any, .one .any, .one .any, .one .any, .one .any], mem := [.live { segs := [.xs (.int .u16) 256 y.1], own := true }, .live { segs := [.xs (.int .u16) 256 y.2.1], own := true }] }
noncomputable def p_ring_raw_l3_L (N : Nat) : LT := upd (p_ring_raw_l6_L N) 3 (loopE p_ring_raw_l3_S N (p_ring_raw_l3_F N) p_ring_raw_l3_go)
theorem p_ring_raw_l3_ok (N : Nat) : OkAll p_ring_raw_E p_ring_raw_H N (p_ring_raw_l3_L N) (subs p_ring_raw_c) :=
  addLoop (c := theLoop 3 p_ring_raw_c) (p_ring_raw_l6_ok N) (by kernel_rfl) (fun x => by kernel_rfl) (fun β x kn ke => by kernel_rfl)
abbrev p_ring_raw_ks : List Kd := [.int .i64, .sl (.int .u8)]
abbrev p_ring_raw_rs : List Kd := [.xs (.int .u16) 256]
noncomputable def p_ring_raw (N : Nat) (x : Int × List Int × Unit) : Option (List Int) :=
  iter (p_ring_raw_l3_F N) N (x.1, (List.length x.2.1), (0:Int), (List.length x.2.1), x.2.1, (List.replicate 256 0), (List.replicate 256 0), ()) fun y2 => (
  some y2.2.1)
theorem p_ring_raw_eq (N : Nat) (x : Ds [.int .i64, .sl (.int .u8)]) : funL p_ring_raw_E p_ring_raw_H (p_ring_raw_l3_L N) N Go.Proofs.Try.f53 p_ring_raw_c [.int .i64, .sl (.int .u8)] [.xs (.int .u16) 256] x = p_ring_raw N x := by kernel_rfl
theorem p_ring_raw_Eok : p_ring_raw_E.Ok Go.Proofs.Try.prog := AE.of_ok (all_cons ty5_ok (all_cons ty22_ok (all_cons ty24_ok (all_cons ty34_ok all_nil)))) all_nil
theorem p_ring_raw_ok {g : Ds [.int .i64, .sl (.int .u8)] → Option (Rs [.xs (.int .u16) 256])} (hg : ∀ x r, g x = some r → ∃ N, p_ring_raw N x = some r) : SigOk Go.Proofs.Try.prog 53 ⟨[.int .i64, .sl (.int .u8)], [.xs (.int .u16) 256], g⟩ :=
  fun_of (E := p_ring_raw_E) (H := p_ring_raw_H) (L := fun N => p_ring_raw_l3_L N) (c := p_ring_raw_c) (ks := p_ring_raw_ks) (rs := p_ring_raw_rs) (F := p_ring_raw) (p_ring_raw_Eok) mix Go.Proofs.Try.func53 (by kernel_rfl) (fun N => p_ring_raw_l3_ok N) p_ring_raw_eq hg

/-! livery/ring.Decode -/
noncomputable def p_ring_Decode_E : AE := AE.of [(22, ty22), (24, ty24), (34, ty34)] [(53, ⟨[.int .i64, .sl (.int .u8)], [.xs (.int .u16) 256], g_ring_raw⟩), (37, ⟨[.xs (.int .u16) 256], [.xs (.int .u16) 256], g_ring_Reduce⟩)]
noncomputable def p_ring_Decode_H : Hints := [(3000000, [4, 5])]
noncomputable def p_ring_Decode_c : Code := (Go.Proofs.Try.f32).body.getD .skip
abbrev p_ring_Decode_ks : List Kd := [.int .i64, .sl (.int .u8)]
abbrev p_ring_Decode_rs : List Kd := [.xs (.int .u16) 256, .int .i64]
noncomputable def p_ring_Decode (N : Nat) (x : Int × List Int × Unit) : Option (List Int × Int) :=
  if (x.1 < (1:Int)) then
    some ((List.replicate 256 0), (1:Int))
  else
    if (x.1 > (12:Int)) then
      some ((List.replicate 256 0), (1:Int))
    else
      if ((((List.length x.2.1) : Nat) : Int) ≠ (IntKind.i64.wrap ((32:Int) * x.1))) then
        some ((List.replicate 256 0), (1:Int))
      else
        (g_ring_raw (x.1, x.2.1, ())).bind fun r1 => (
        if (x.1 = (12:Int)) then
          (g_ring_Reduce (r1, ())).bind fun r2 => (
          some (r2, (0:Int)))
        else
          some (r1, (0:Int)))
theorem p_ring_Decode_eq (N : Nat) (x : Ds [.int .i64, .sl (.int .u8)]) : funL p_ring_Decode_E p_ring_Decode_H (LT.nil) N Go.Proofs.Try.f32 p_ring_Decode_c [.int .i64, .sl (.int .u8)] [.xs (.int .u16) 256, .int .i64] x = p_ring_Decode N x := by kernel_rfl
theorem p_ring_Decode_Eok (he_ring_raw : SigOk Go.Proofs.Try.prog 53 ⟨[.int .i64, .sl (.int .u8)], [.xs (.int .u16) 256], g_ring_raw⟩) (he_ring_Reduce : SigOk Go.Proofs.Try.prog 37 ⟨[.xs (.int .u16) 256], [.xs (.int .u16) 256], g_ring_Reduce⟩) : p_ring_Decode_E.Ok Go.Proofs.Try.prog := AE.of_ok (all_cons ty22_ok (all_cons ty24_ok (all_cons ty34_ok all_nil))) (all_cons ⟨he_ring_raw, enters_ring_raw⟩ (all_cons ⟨he_ring_Reduce, enters_ring_Reduce⟩ all_nil))
theorem p_ring_Decode_ok (he_ring_raw : SigOk Go.Proofs.Try.prog 53 ⟨[.int .i64, .sl (.int .u8)], [.xs (.int .u16) 256], g_ring_raw⟩) (he_ring_Reduce : SigOk Go.Proofs.Try.prog 37 ⟨[.xs (.int .u16) 256], [.xs (.int .u16) 256], g_ring_Reduce⟩) {g : Ds [.int .i64, .sl (.int .u8)] → Option (Rs [.xs (.int .u16) 256, .int .i64])} (hg : ∀ x r, g x = some r → ∃ N, p_ring_Decode N x = some r) : SigOk Go.Proofs.Try.prog 32 ⟨[.int .i64, .sl (.int .u8)], [.xs (.int .u16) 256, .int .i64], g⟩ :=
  fun_of (E := p_ring_Decode_E) (H := p_ring_Decode_H) (L := fun N => LT.nil) (c := p_ring_Decode_c) (ks := p_ring_Decode_ks) (rs := p_ring_Decode_rs) (F := p_ring_Decode) (p_ring_Decode_Eok he_ring_raw he_ring_Reduce) mix Go.Proofs.Try.func32 (by kernel_rfl) (fun N => OkAll.nil) p_ring_Decode_eq hg

/-! livery/liveryref13.numbers -/
noncomputable def p_ref13_numbers_E : AE := AE.of [(3, ty3), (4, ty4), (52, ty52), (58, ty58)] [(50, ⟨[.sl (.int .u8)], [.sl .bool], g_ref01_Bits⟩)]
noncomputable def p_ref13_numbers_H : Hints := [(4, [0, 5, 6, 7]), (8, [0, 5, 6, 7, 8, 9, 10]), (2000000, [6]), (2000001, [0, 5, 6, 7]), (2000002, [0, 5, 6, 7, 8]), (2000003, [0, 5, 6, 7, 8, 9, 10]), (3000000, [4])]
noncomputable def p_ref13_numbers_c : Code := (Go.Proofs.Try.f54).body.getD .skip
noncomputable def p_ref13_numbers_l8_S : Shape where
  h := { tmps := [.sc (.int .i64), .any, .any, .any, .any, .sc (.vec 0 none 1), .sc (.vec 1 none 1), .sc (.int .i64), .sc (.int .i64), .sc (.int .i64), .sc (.int .i64), .any, .any, .any, .any, .any, .any, .any, .any, .any, .any, .any, .any, .any, .any, .any, .any, .any, .any, .any, .any, .any, .any, .any, .any, .any, .any, .any, .any, .any, .any, .any, .any], mem := [.live [.xs .bool none] true, .live [.xs (.int .i64) none] true] }
  ks := [.int, .nat, .nat, .int, .int, .int, .int, .nat, .xs, .nat, .xs]
  st := fun x => { tmps := [.one (.sc (.int .i64 x.1)), .one .any, .one .any, .one .any, .one .any, .one (.sc (.vec 0 x.2.1 1)), .one (.sc (.vec 1 x.2.2.1 1)), .one (.sc (.int .i64 x.2.2.2.1)), .one (.sc (.int .i64 x.2.2.2.2.1)), .one (.sc (.int .i64 x.2.2.2.2.2.1)), .one (.sc (.int .i64 x.2.2.2.2.2.2.1)), .one .any, .one .any, .one .any, .one .any, .one .any, .one .any, .one .any, .one .any, .one .any, .one .any, .one .any, .one .any, .one .any, .one .any, .one .any, .one .any, .one .any, .one .any, .one .any, .one .any, .one .any, .one .any, .one .any, .one .any, .one .any, .one .any, .one .any, .one .any, .one .any, .one .any, .one .any, .one .any], mem := [.live { segs := [.xs .bool x.2.2.2.2.2.2.2.1 x.2.2.2.2.2.2.2.2.1], own := true }, .live { segs := [.xs (.int .i64) x.2.2.2.2.2.2.2.2.2.1 x.2.2.2.2.2.2.2.2.2.2.1], own := true }] }
noncomputable def p_ref13_numbers_l8_F (N : Nat) (β : Type) (x : (Int × Nat × Nat × Int × Int × Int × Int × Nat × List Int × Nat × List Int × Unit)) (kn : (Int × Nat × Nat × Int × Int × Int × Int × Nat × List Int × Nat × List Int × Unit) → Option β) (ke : ((Int × Nat × Nat × Int × Int × Nat × List Int × Nat × List Int × Unit)) → Option β) : Option β :=
  if (x.2.2.2.2.2.2.1 < (IntKind.i64.wrap (x.2.2.2.1 + x.1))) then
    if 0 ≤ x.2.2.2.2.2.2.1 then (
    if x.2.2.2.2.2.2.1 < ((x.2.1 : Nat) : Int) then (
    if (x.2.2.2.2.2.2.1.toNat) < x.2.2.2.2.2.2.2.1 then (
    if ((List.getD x.2.2.2.2.2.2.2.2.1 (x.2.2.2.2.2.2.1.toNat) 0) ≠ 0) then
      kn (x.1, x.2.1, x.2.2.1, x.2.2.2.1, (IntKind.i64.wrap (x.2.2.2.2.1 + x.2.2.2.2.2.1)), (IntKind.i64.wrap (x.2.2.2.2.2.1 * (2:Int))), (IntKind.i64.wrap (x.2.2.2.2.2.2.1 + (1:Int))), x.2.2.2.2.2.2.2.1, x.2.2.2.2.2.2.2.2.1, x.2.2.2.2.2.2.2.2.2.1, x.2.2.2.2.2.2.2.2.2.2.1, ())
    else
      kn (x.1, x.2.1, x.2.2.1, x.2.2.2.1, x.2.2.2.2.1, (IntKind.i64.wrap (x.2.2.2.2.2.1 * (2:Int))), (IntKind.i64.wrap (x.2.2.2.2.2.2.1 + (1:Int))), x.2.2.2.2.2.2.2.1, x.2.2.2.2.2.2.2.2.1, x.2.2.2.2.2.2.2.2.2.1, x.2.2.2.2.2.2.2.2.2.2.1, ())) else none) else none) else none
  else
    ke (x.1, x.2.1, x.2.2.1, x.2.2.2.1, x.2.2.2.2.1, x.2.2.2.2.2.2.2.1, x.2.2.2.2.2.2.2.2.1, x.2.2.2.2.2.2.2.2.2.1, x.2.2.2.2.2.2.2.2.2.2.1, ())
noncomputable def p_ref13_numbers_l8_go : Go' ((Int × Nat × Nat × Int × Int × Nat × List Int × Nat × List Int × Unit)) := fun y K => K (.exit 2) { tmps := [.one (.sc (.int .i64 y.1)), .one .any, .one .any, .one .any, .one .any, .one (.sc (.vec 0 y.2.1 1)), .one (.sc (.vec 1 y.2.2.1 1)), .one (.sc (.int .i64 y.2.2.2.1)), .one (.sc (.int .i64 y.2.2.2.2.1)), .one .any, .one .any, .one .any, .one .any, .one .any, .one .any, .one .any, .one .any, .one .any, .one .any, .one .any, .one .any, .one .any, .one .any, .one .any, .one .any, .one .any, .one .any, .one .any, .one .any, .one .any, .one .any, .one .any, .one .any, .one .any, .one .any, .one .any, .one .any, .one .any, .one .any, .one .any, .one .any, .one .any, .one .any], mem := [.live { segs := [.xs .bool y.2.2.2.2.2.1 y.2.2.2.2.2.2.1], own := true }, .live { segs := [.xs (.int .i64) y.2.2.2.2.2.2.2.1 y.2.2.2.2.2.2.2.2.1], own := true }] }
noncomputable def p_ref13_numbers_l8_L (N : Nat) : LT := upd (LT.nil) 8 (loopE p_ref13_numbers_l8_S N (p_ref13_numbers_l8_F N) p_ref13_numbers_l8_go)
theorem p_ref13_numbers_l8_ok (N : Nat) : OkAll p_ref13_numbers_E p_ref13_numbers_H N (p_ref13_numbers_l8_L N) (subs p_ref13_numbers_c) :=
  addLoop (c := theLoop 8 p_ref13_numbers_c) (OkAll.nil) (by kernel_rfl) (fun x => by kernel_rfl) (fun β x kn ke => by kernel_rfl)
noncomputable def p_ref13_numbers_l4_S : Shape where
  h := { tmps := [.sc (.int .i64), .any, .any, .any, .any, .sc (.vec 0 none 1), .sc (.vec 1 none 1), .sc (.int .i64), .any, .any, .any, .any, .any, .any, .any, .any, .any, .any, .any, .any, .any, .any, .any, .any, .any, .any, .any, .any, .any, .any, .any, .any, .any, .any, .any, .any, .any, .any, .any, .any, .any, .any, .any], mem := [.live [.xs .bool none] true, .live [.xs (.int .i64) none] true] }
  ks := [.int, .nat, .nat, .int, .nat, .xs, .nat, .xs]
  st := fun x => { tmps := [.one (.sc (.int .i64 x.1)), .one .any, .one .any, .one .any, .one .any, .one (.sc (.vec 0 x.2.1 1)), .one (.sc (.vec 1 x.2.2.1 1)), .one (.sc (.int .i64 x.2.2.2.1)), .one .any, .one .any, .one .any, .one .any, .one .any, .one .any, .one .any, .one .any, .one .any, .one .any, .one .any, .one .any, .one .any, .one .any, .one .any, .one .any, .one .any, .one .any, .one .any, .one .any, .one .any, .one .any, .one .any, .one .any, .one .any, .one .any, .one .any, .one .any, .one .any, .one .any, .one .any, .one .any, .one .any, .one .any, .one .any], mem := [.live { segs := [.xs .bool x.2.2.2.2.1 x.2.2.2.2.2.1], own := true }, .live { segs := [.xs (.int .i64) x.2.2.2.2.2.2.1 x.2.2.2.2.2.2.2.1], own := true }] }
noncomputable def p_ref13_numbers_l4_F (N : Nat) (β : Type) (x : (Int × Nat × Nat × Int × Nat × List Int × Nat × List Int × Unit)) (kn : (Int × Nat × Nat × Int × Nat × List Int × Nat × List Int × Unit) → Option β) (ke : ((Nat × Nat × List Int × Unit)) → Option β) : Option β :=
  if (x.2.2.2.1 < ((x.2.1 : Nat) : Int)) then
    iter (p_ref13_numbers_l8_F N) N (x.1, x.2.1, x.2.2.1, x.2.2.2.1, (0:Int), (1:Int), x.2.2.2.1, x.2.2.2.2.1, x.2.2.2.2.2.1, x.2.2.2.2.2.2.1, x.2.2.2.2.2.2.2.1, ()) fun y2 => (
    if (y2.2.2.1 + 1) * 8 ≤ 140737488355328 then (
    kn (y2.1, y2.2.1, (y2.2.2.1 + 1), (IntKind.i64.wrap (y2.2.2.2.1 + y2.1)), y2.2.2.2.2.2.1, y2.2.2.2.2.2.2.1, (y2.2.2.2.2.2.2.2.1 + 1), (y2.2.2.2.2.2.2.2.2.1 ++ (List.set (List.replicate 1 0) 0 y2.2.2.2.2.1)), ())) else none)
  else
    ke (x.2.2.1, x.2.2.2.2.2.2.1, x.2.2.2.2.2.2.2.1, ())
noncomputable def p_ref13_numbers_l4_go : Go' ((Nat × Nat × List Int × Unit)) := fun y K => K (.exit 0) { tmps := [.one .any, .one .any, .one .any, .one .any, .one .any, .one .any, .one (.sc (.vec 0 y.1 1)), .one .any, .one .any, .one .any, .one .any, .one .any, .one .any, .one .any, .one .any, .one .any, .one .any, .one .any, .one .any, .one .any, .one .any, .one .any, .one .any, .one .any, .one .any, .one .any, .one .any, .one .any, .one .any, .one .any, .one .any, .one .any, .one .any, .one .any, .one .any, .one .any, .one .any, .one .any, .one .any, .one .any, .one .any, .one .any, .one .any], mem := [.live { segs := [.xs (.int .i64) y.2.1 y.2.2.1], own := true }] }
noncomputable def p_ref13_numbers_l4_L (N : Nat) : LT := upd (p_ref13_numbers_l8_L N) 4 (loopE p_ref13_numbers_l4_S N (p_ref13_numbers_l4_F N) p_ref13_numbers_l4_go)
theorem p_ref13_numbers_l4_ok (N : Nat) : OkAll p_ref13_numbers_E p_ref13_numbers_H N (p_ref13_numbers_l4_L N) (subs p_ref13_numbers_c) :=
  addLoop (c := theLoop 4 p_ref13_numbers_c) (p_ref13_numbers_l8_ok N) (by kernel_rfl) (fun x => by kernel_rfl) (fun β x kn ke => by kernel_rfl)
abbrev p_ref13_numbers_ks : List Kd := [.int .i64, .sl (.int .u8)]
abbrev p_ref13_numbers_rs : List Kd := [.sl (.int .i64)]
noncomputable def p_ref13_numbers (N : Nat) (x : Int × List Int × Unit) : Option (List Int) :=
  (g_ref01_Bits (x.2.1, ())).bind fun r1 => (
  iter (p_ref13_numbers_l4_F N) N (x.1, (List.length r1), 0, (0:Int), (List.length r1), r1, 0, (List.replicate 0 0), ()) fun y3 => (
  some y3.2.2.1))
theorem p_ref13_numbers_eq (N : Nat) (x : Ds [.int .i64, .sl (.int .u8)]) : funL p_ref13_numbers_E p_ref13_numbers_H (p_ref13_numbers_l4_L N) N Go.Proofs.Try.f54 p_ref13_numbers_c [.int .i64, .sl (.int .u8)] [.sl (.int .i64)] x = p_ref13_numbers N x := by kernel_rfl
theorem p_ref13_numbers_Eok (he_ref01_Bits : SigOk Go.Proofs.Try.prog 50 ⟨[.sl (.int .u8)], [.sl .bool], g_ref01_Bits⟩) : p_ref13_numbers_E.Ok Go.Proofs.Try.prog := AE.of_ok (all_cons ty3_ok (all_cons ty4_ok (all_cons ty52_ok (all_cons ty58_ok all_nil)))) (all_cons ⟨he_ref01_Bits, enters_ref01_Bits⟩ all_nil)
theorem p_ref13_numbers_ok (he_ref01_Bits : SigOk Go.Proofs.Try.prog 50 ⟨[.sl (.int .u8)], [.sl .bool], g_ref01_Bits⟩) {g : Ds [.int .i64, .sl (.int .u8)] → Option (Rs [.sl (.int .i64)])} (hg : ∀ x r, g x = some r → ∃ N, p_ref13_numbers N x = some r) : SigOk Go.Proofs.Try.prog 54 ⟨[.int .i64, .sl (.int .u8)], [.sl (.int .i64)], g⟩ :=
  fun_of (E := p_ref13_numbers_E) (H := p_ref13_numbers_H) (L := fun N => p_ref13_numbers_l4_L N) (c := p_ref13_numbers_c) (ks := p_ref13_numbers_ks) (rs := p_ref13_numbers_rs) (F := p_ref13_numbers) (p_ref13_numbers_Eok he_ref01_Bits) mix Go.Proofs.Try.func54 (by kernel_rfl) (fun N => p_ref13_numbers_l4_ok N) p_ref13_numbers_eq hg

/-! livery/liveryref13.Decode -/
noncomputable def p_ref13_Decode_E : AE := AE.of [(3, ty3), (22, ty22), (24, ty24), (34, ty34), (58, ty58)] [(54, ⟨[.int .i64, .sl (.int .u8)], [.sl (.int .i64)], g_ref13_numbers⟩)]
noncomputable def p_ref13_Decode_H : Hints := [(5, [0, 4, 6, 25, 26, 27]), (2000000, [4, 6]), (2000001, [0, 4, 6, 25, 26, 27]), (3000000, [4, 5])]
noncomputable def p_ref13_Decode_c : Code := (Go.Proofs.Try.f33).body.getD .skip
noncomputable def p_ref13_Decode_l5_S : Shape where
  h := { tmps := [.sc (.int .i64), .any, .any, .any, .sc (.ptr 0 0 false), .any, .sc (.ptr 1 0 false), .any, .any, .any, .any, .any, .any, .any, .any, .any, .any, .any, .any, .any, .any, .any, .any, .any, .any, .sc (.vec 2 none 1), .sc (.int .i64), .sc (.int .i64), .any, .any, .any, .any, .any, .any, .any, .any, .any, .any, .any, .any, .any, .any], mem := [.live [.xs (.int .u16) (some 256)] true, .live [.xs (.int .u16) (some 256)] true, .live [.xs (.int .i64) none] true] }
  ks := [.int, .nat, .int, .int, .xs, .xs, .nat, .xs]
  st := fun x => { tmps := [.one (.sc (.int .i64 x.1)), .one .any, .one .any, .one .any, .one (.sc (.ptr 0 0 none)), .one .any, .one (.sc (.ptr 1 0 none)), .one .any, .one .any, .one .any, .one .any, .one .any, .one .any, .one .any, .one .any, .one .any, .one .any, .one .any, .one .any, .one .any, .one .any, .one .any, .one .any, .one .any, .one .any, .one (.sc (.vec 2 x.2.1 1)), .one (.sc (.int .i64 x.2.2.1)), .one (.sc (.int .i64 x.2.2.2.1)), .one .any, .one .any, .one .any, .one .any, .one .any, .one .any, .one .any, .one .any, .one .any, .one .any, .one .any, .one .any, .one .any, .one .any], mem := [.live { segs := [.xs (.int .u16) 256 x.2.2.2.2.1], own := true }, .live { segs := [.xs (.int .u16) 256 x.2.2.2.2.2.1], own := true }, .live { segs := [.xs (.int .i64) x.2.2.2.2.2.2.1 x.2.2.2.2.2.2.2.1], own := true }] }
noncomputable def p_ref13_Decode_l5_F (N : Nat) (β : Type) (x : (Int × Nat × Int × Int × List Int × List Int × Nat × List Int × Unit)) (kn : (Int × Nat × Int × Int × List Int × List Int × Nat × List Int × Unit) → Option β) (ke : ((List Int × List Int × Unit)) → Option β) : Option β :=
  if (x.2.2.2.1 < x.2.2.1) then
    if 0 ≤ x.2.2.2.1 then (
    if x.2.2.2.1 < ((x.2.1 : Nat) : Int) then (
    if (x.2.2.2.1.toNat) < x.2.2.2.2.2.2.1 then (
    if (x.1 = (12:Int)) then
      if 0 ≤ x.2.2.2.1 then (
      if x.2.2.2.1 < 256 then (
      if (x.2.2.2.1.toNat) < 256 then (
      kn (x.1, x.2.1, x.2.2.1, (IntKind.i64.wrap (x.2.2.2.1 + (1:Int))), x.2.2.2.2.1, (List.set x.2.2.2.2.2.1 (x.2.2.2.1.toNat) (IntKind.u16.wrap (Int.tmod (List.getD x.2.2.2.2.2.2.2.1 (x.2.2.2.1.toNat) 0) (3329:Int)))), x.2.2.2.2.2.2.1, x.2.2.2.2.2.2.2.1, ())) else none) else none) else none
    else
      if 0 ≤ x.2.2.2.1 then (
      if x.2.2.2.1 < 256 then (
      if (x.2.2.2.1.toNat) < 256 then (
      kn (x.1, x.2.1, x.2.2.1, (IntKind.i64.wrap (x.2.2.2.1 + (1:Int))), x.2.2.2.2.1, (List.set x.2.2.2.2.2.1 (x.2.2.2.1.toNat) (IntKind.u16.wrap (List.getD x.2.2.2.2.2.2.2.1 (x.2.2.2.1.toNat) 0))), x.2.2.2.2.2.2.1, x.2.2.2.2.2.2.2.1, ())) else none) else none) else none) else none) else none) else none
  else
    ke (x.2.2.2.2.1, x.2.2.2.2.2.1, ())
noncomputable def p_ref13_Decode_l5_go : Go' ((List Int × List Int × Unit)) := fun y K => K (.exit 0) { tmps := [.one .any, .one .any, .one .any, .one .any, .one (.sc (.ptr 0 0 none)), .one .any, .one (.sc (.ptr 1 0 none)), .one .any, .one .any, .one .any, .one .any, .one .any, .one .any, .one .any, .one .any, .one .any, .one .any, .one .any, .one .any, .one .any, .one .any, .one .any, .one .any, .one .any, .one .any, .one .any, .one .any, .one .any, .one .any, .one .any, .one .any, .one .any, .one .any, .one .any, .one .any, .one .any, .one .any, .one .any, .one .any, .one .any, .one .any, .one .any], mem := [.live { segs := [.xs (.int .u16) 256 y.1], own := true }, .live { segs := [.xs (.int .u16) 256 y.2.1], own := true }] }
noncomputable def p_ref13_Decode_l5_L (N : Nat) : LT := upd (LT.nil) 5 (loopE p_ref13_Decode_l5_S N (p_ref13_Decode_l5_F N) p_ref13_Decode_l5_go)
theorem p_ref13_Decode_l5_ok (N : Nat) : OkAll p_ref13_Decode_E p_ref13_Decode_H N (p_ref13_Decode_l5_L N) (subs p_ref13_Decode_c) :=
  addLoop (c := theLoop 5 p_ref13_Decode_c) (OkAll.nil) (by kernel_rfl) (fun x => by kernel_rfl) (fun β x kn ke => by kernel_rfl)
abbrev p_ref13_Decode_ks : List Kd := [.int .i64, .sl (.int .u8)]
abbrev p_ref13_Decode_rs : List Kd := [.xs (.int .u16) 256, .int .i64]
noncomputable def p_ref13_Decode (N : Nat) (x : Int × List Int × Unit) : Option (List Int × Int) :=
  if (x.1 < (1:Int)) then
    some ((List.replicate 256 0), (1:Int))
  else
    if (x.1 > (12:Int)) then
      some ((List.replicate 256 0), (1:Int))
    else
      if ((((List.length x.2.1) : Nat) : Int) ≠ (IntKind.i64.wrap ((32:Int) * x.1))) then
        some ((List.replicate 256 0), (1:Int))
      else
        (g_ref13_numbers (x.1, x.2.1, ())).bind fun r1 => (
        iter (p_ref13_Decode_l5_F N) N (x.1, (List.length r1), (((List.length r1) : Nat) : Int), (0:Int), (List.replicate 256 0), (List.replicate 256 0), (List.length r1), r1, ()) fun y2 => (
        some (y2.2.1, (0:Int))))
theorem p_ref13_Decode_eq (N : Nat) (x : Ds [.int .i64, .sl (.int .u8)]) : funL p_ref13_Decode_E p_ref13_Decode_H (p_ref13_Decode_l5_L N) N Go.Proofs.Try.f33 p_ref13_Decode_c [.int .i64, .sl (.int .u8)] [.xs (.int .u16) 256, .int .i64] x = p_ref13_Decode N x := by kernel_rfl
theorem p_ref13_Decode_Eok (he_ref13_numbers : SigOk Go.Proofs.Try.prog 54 ⟨[.int .i64, .sl (.int .u8)], [.sl (.int .i64)], g_ref13_numbers⟩) : p_ref13_Decode_E.Ok Go.Proofs.Try.prog := AE.of_ok (all_cons ty3_ok (all_cons ty22_ok (all_cons ty24_ok (all_cons ty34_ok (all_cons ty58_ok all_nil))))) (all_cons ⟨he_ref13_numbers, enters_ref13_numbers⟩ all_nil)
theorem p_ref13_Decode_ok (he_ref13_numbers : SigOk Go.Proofs.Try.prog 54 ⟨[.int .i64, .sl (.int .u8)], [.sl (.int .i64)], g_ref13_numbers⟩) {g : Ds [.int .i64, .sl (.int .u8)] → Option (Rs [.xs (.int .u16) 256, .int .i64])} (hg : ∀ x r, g x = some r → ∃ N, p_ref13_Decode N x = some r) : SigOk Go.Proofs.Try.prog 33 ⟨[.int .i64, .sl (.int .u8)], [.xs (.int .u16) 256, .int .i64], g⟩ :=
  fun_of (E := p_ref13_Decode_E) (H := p_ref13_Decode_H) (L := fun N => p_ref13_Decode_l5_L N) (c := p_ref13_Decode_c) (ks := p_ref13_Decode_ks) (rs := p_ref13_Decode_rs) (F := p_ref13_Decode) (p_ref13_Decode_Eok he_ref13_numbers) mix Go.Proofs.Try.func33 (by kernel_rfl) (fun N => p_ref13_Decode_l5_ok N) p_ref13_Decode_eq hg

/-! livery/ring.Canon -/
noncomputable def p_ring_Canon_E : AE := AE.of [(22, ty22), (24, ty24), (34, ty34)] [(53, ⟨[.int .i64, .sl (.int .u8)], [.xs (.int .u16) 256], g_ring_raw⟩), (37, ⟨[.xs (.int .u16) 256], [.xs (.int .u16) 256], g_ring_Reduce⟩)]
noncomputable def p_ring_Canon_H : Hints := [(3000000, [2])]
noncomputable def p_ring_Canon_c : Code := (Go.Proofs.Try.f35).body.getD .skip
abbrev p_ring_Canon_ks : List Kd := [.sl (.int .u8)]
abbrev p_ring_Canon_rs : List Kd := [.bool]
noncomputable def p_ring_Canon (N : Nat) (x : List Int × Unit) : Option (Bool) :=
  if ((((List.length x.1) : Nat) : Int) ≠ (384:Int)) then
    some false
  else
    (g_ring_raw ((12:Int), x.1, ())).bind fun r1 => (
    (g_ring_Reduce (r1, ())).bind fun r2 => (
    some (decide (r1 = r2))))
theorem p_ring_Canon_eq (N : Nat) (x : Ds [.sl (.int .u8)]) : funL p_ring_Canon_E p_ring_Canon_H (LT.nil) N Go.Proofs.Try.f35 p_ring_Canon_c [.sl (.int .u8)] [.bool] x = p_ring_Canon N x := by kernel_rfl
theorem p_ring_Canon_Eok (he_ring_raw : SigOk Go.Proofs.Try.prog 53 ⟨[.int .i64, .sl (.int .u8)], [.xs (.int .u16) 256], g_ring_raw⟩) (he_ring_Reduce : SigOk Go.Proofs.Try.prog 37 ⟨[.xs (.int .u16) 256], [.xs (.int .u16) 256], g_ring_Reduce⟩) : p_ring_Canon_E.Ok Go.Proofs.Try.prog := AE.of_ok (all_cons ty22_ok (all_cons ty24_ok (all_cons ty34_ok all_nil))) (all_cons ⟨he_ring_raw, enters_ring_raw⟩ (all_cons ⟨he_ring_Reduce, enters_ring_Reduce⟩ all_nil))
theorem p_ring_Canon_ok (he_ring_raw : SigOk Go.Proofs.Try.prog 53 ⟨[.int .i64, .sl (.int .u8)], [.xs (.int .u16) 256], g_ring_raw⟩) (he_ring_Reduce : SigOk Go.Proofs.Try.prog 37 ⟨[.xs (.int .u16) 256], [.xs (.int .u16) 256], g_ring_Reduce⟩) {g : Ds [.sl (.int .u8)] → Option (Rs [.bool])} (hg : ∀ x r, g x = some r → ∃ N, p_ring_Canon N x = some r) : SigOk Go.Proofs.Try.prog 35 ⟨[.sl (.int .u8)], [.bool], g⟩ :=
  fun_of (E := p_ring_Canon_E) (H := p_ring_Canon_H) (L := fun N => LT.nil) (c := p_ring_Canon_c) (ks := p_ring_Canon_ks) (rs := p_ring_Canon_rs) (F := p_ring_Canon) (p_ring_Canon_Eok he_ring_raw he_ring_Reduce) mix Go.Proofs.Try.func35 (by kernel_rfl) (fun N => OkAll.nil) p_ring_Canon_eq hg

/-! livery/liveryref13.Canon -/
noncomputable def p_ref13_Canon_E : AE := AE.of [(3, ty3), (34, ty34), (58, ty58)] [(54, ⟨[.int .i64, .sl (.int .u8)], [.sl (.int .i64)], g_ref13_numbers⟩)]
noncomputable def p_ref13_Canon_H : Hints := [(4, [9, 10, 11]), (2000000, []), (2000001, [9, 10, 11]), (3000000, [2])]
noncomputable def p_ref13_Canon_c : Code := (Go.Proofs.Try.f36).body.getD .skip
noncomputable def p_ref13_Canon_l4_S : Shape where
  h := { tmps := [.any, .any, .any, .any, .any, .any, .any, .any, .any, .sc (.vec 0 none 1), .sc (.int .i64), .sc (.int .i64), .any, .any, .any, .any, .any, .any], mem := [.live [.xs (.int .i64) none] true] }
  ks := [.nat, .int, .int, .nat, .xs]
  st := fun x => { tmps := [.one .any, .one .any, .one .any, .one .any, .one .any, .one .any, .one .any, .one .any, .one .any, .one (.sc (.vec 0 x.1 1)), .one (.sc (.int .i64 x.2.1)), .one (.sc (.int .i64 x.2.2.1)), .one .any, .one .any, .one .any, .one .any, .one .any, .one .any], mem := [.live { segs := [.xs (.int .i64) x.2.2.2.1 x.2.2.2.2.1], own := true }] }
noncomputable def p_ref13_Canon_l4_F (N : Nat) (β : Type) (x : (Nat × Int × Int × Nat × List Int × Unit)) (kn : (Nat × Int × Int × Nat × List Int × Unit) → Option β) (ke : ((Bool × Unit) ⊕ (Unit)) → Option β) : Option β :=
  if (x.2.2.1 < x.2.1) then
    if 0 ≤ x.2.2.1 then (
    if x.2.2.1 < ((x.1 : Nat) : Int) then (
    if (x.2.2.1.toNat) < x.2.2.2.1 then (
    if ((List.getD x.2.2.2.2.1 (x.2.2.1.toNat) 0) ≥ (3329:Int)) then
      ke (.inl (false, ()))
    else
      kn (x.1, x.2.1, (IntKind.i64.wrap (x.2.2.1 + (1:Int))), x.2.2.2.1, x.2.2.2.2.1, ())) else none) else none) else none
  else
    ke (.inr (()))
noncomputable def p_ref13_Canon_l4_go : Go' ((Bool × Unit) ⊕ (Unit)) := fun y K => match y with
  | .inl y => K .ret { tmps := [.one .any, .one .any, .one (.sc (.known y.1)), .one .any, .one .any, .one .any, .one .any, .one .any, .one .any, .one .any, .one .any, .one .any, .one .any, .one .any, .one .any, .one .any, .one .any, .one .any], mem := [] }
  | .inr y => K (.exit 0) { tmps := [.one .any, .one .any, .one .any, .one .any, .one .any, .one .any, .one .any, .one .any, .one .any, .one .any, .one .any, .one .any, .one .any, .one .any, .one .any, .one .any, .one .any, .one .any], mem := [] }
noncomputable def p_ref13_Canon_l4_L (N : Nat) : LT := upd (LT.nil) 4 (loopE p_ref13_Canon_l4_S N (p_ref13_Canon_l4_F N) p_ref13_Canon_l4_go)
theorem p_ref13_Canon_l4_ok (N : Nat) : OkAll p_ref13_Canon_E p_ref13_Canon_H N (p_ref13_Canon_l4_L N) (subs p_ref13_Canon_c) :=
  addLoop (c := theLoop 4 p_ref13_Canon_c) (OkAll.nil) (by kernel_rfl) (fun x => by kernel_rfl) (fun β x kn ke => by kernel_rfl)
abbrev p_ref13_Canon_ks : List Kd := [.sl (.int .u8)]
abbrev p_ref13_Canon_rs : List Kd := [.bool]
noncomputable def p_ref13_Canon (N : Nat) (x : List Int × Unit) : Option (Bool) :=
  if ((((List.length x.1) : Nat) : Int) ≠ (384:Int)) then
    some false
  else
    (g_ref13_numbers ((12:Int), x.1, ())).bind fun r1 => (
    iter (p_ref13_Canon_l4_F N) N ((List.length r1), (((List.length r1) : Nat) : Int), (0:Int), (List.length r1), r1, ()) fun y => (match y with
    | .inl y2 => (
      some y2.1)
    | .inr y3 => (
      some true)))
theorem p_ref13_Canon_eq (N : Nat) (x : Ds [.sl (.int .u8)]) : funL p_ref13_Canon_E p_ref13_Canon_H (p_ref13_Canon_l4_L N) N Go.Proofs.Try.f36 p_ref13_Canon_c [.sl (.int .u8)] [.bool] x = p_ref13_Canon N x := by kernel_rfl
theorem p_ref13_Canon_Eok (he_ref13_numbers : SigOk Go.Proofs.Try.prog 54 ⟨[.int .i64, .sl (.int .u8)], [.sl (.int .i64)], g_ref13_numbers⟩) : p_ref13_Canon_E.Ok Go.Proofs.Try.prog := AE.of_ok (all_cons ty3_ok (all_cons ty34_ok (all_cons ty58_ok all_nil))) (all_cons ⟨he_ref13_numbers, enters_ref13_numbers⟩ all_nil)
theorem p_ref13_Canon_ok (he_ref13_numbers : SigOk Go.Proofs.Try.prog 54 ⟨[.int .i64, .sl (.int .u8)], [.sl (.int .i64)], g_ref13_numbers⟩) {g : Ds [.sl (.int .u8)] → Option (Rs [.bool])} (hg : ∀ x r, g x = some r → ∃ N, p_ref13_Canon N x = some r) : SigOk Go.Proofs.Try.prog 36 ⟨[.sl (.int .u8)], [.bool], g⟩ :=
  fun_of (E := p_ref13_Canon_E) (H := p_ref13_Canon_H) (L := fun N => p_ref13_Canon_l4_L N) (c := p_ref13_Canon_c) (ks := p_ref13_Canon_ks) (rs := p_ref13_Canon_rs) (F := p_ref13_Canon) (p_ref13_Canon_Eok he_ref13_numbers) mix Go.Proofs.Try.func36 (by kernel_rfl) (fun N => p_ref13_Canon_l4_ok N) p_ref13_Canon_eq hg

/-! livery/liverylaw13.RingCodes -/
noncomputable def p_law13_RingCodes_E : AE := AE.of [(4, ty4), (22, ty22), (24, ty24)] [(30, ⟨[.int .i64, .xs (.int .u16) 256], [.sl (.int .u8), .int .i64], g_ring_Encode⟩), (31, ⟨[.int .i64, .xs (.int .u16) 256], [.sl (.int .u8), .int .i64], g_ref13_Encode⟩), (32, ⟨[.int .i64, .sl (.int .u8)], [.xs (.int .u16) 256, .int .i64], g_ring_Decode⟩), (33, ⟨[.int .i64, .sl (.int .u8)], [.xs (.int .u16) 256, .int .i64], g_ref13_Decode⟩), (18, ⟨[], [.bool], g_law13_live⟩), (34, ⟨[.sl (.int .u8), .sl (.int .u8)], [.bool], g_ref01_Equal⟩), (35, ⟨[.sl (.int .u8)], [.bool], g_ring_Canon⟩), (36, ⟨[.sl (.int .u8)], [.bool], g_ref13_Canon⟩)]
noncomputable def p_law13_RingCodes_H : Hints := [(3000000, [6])]
noncomputable def p_law13_RingCodes_c : Code := (Go.Proofs.Try.f9).body.getD .skip
abbrev p_law13_RingCodes_ks : List Kd := [.int .i64, .xs (.int .u16) 256, .sl (.int .u8)]
abbrev p_law13_RingCodes_rs : List Kd := [.bool]
noncomputable def p_law13_RingCodes (N : Nat) (x : Int × List Int × List Int × Unit) : Option (Bool) :=
  (g_ring_Encode (x.1, x.2.1, ())).bind fun r1 => (
  (g_ref13_Encode (x.1, x.2.1, ())).bind fun r2 => (
  (g_ring_Decode (x.1, x.2.2.1, ())).bind fun r3 => (
  (g_ref13_Decode (x.1, x.2.2.1, ())).bind fun r4 => (
  (g_law13_live (())).bind fun r5 => (
  if (r5 = true) then
    (g_ref01_Equal (r1.1, r2.1, ())).bind fun r6 => (
    if (r6 = true) then
      if (r1.2 = r2.2) then
        if (r3.1 = r4.1) then
          if (r3.2 = r4.2) then
            (g_ring_Canon (x.2.2.1, ())).bind fun r7 => (
            (g_ref13_Canon (x.2.2.1, ())).bind fun r8 => (
            if ((decide (r7 = true)) = (decide (r8 = true))) then
              (g_ring_Canon (r1.1, ())).bind fun r9 => (
              (g_ref13_Canon (r2.1, ())).bind fun r10 => (
              some (decide ((decide (r9 = true)) = (decide (r10 = true))))))
            else
              some false))
          else
            some false
        else
          some false
      else
        some false
    else
      some false)
  else
    some false)))))
theorem p_law13_RingCodes_eq (N : Nat) (x : Ds [.int .i64, .xs (.int .u16) 256, .sl (.int .u8)]) : funL p_law13_RingCodes_E p_law13_RingCodes_H (LT.nil) N Go.Proofs.Try.f9 p_law13_RingCodes_c [.int .i64, .xs (.int .u16) 256, .sl (.int .u8)] [.bool] x = p_law13_RingCodes N x := by kernel_rfl
theorem p_law13_RingCodes_Eok (he_ring_Encode : SigOk Go.Proofs.Try.prog 30 ⟨[.int .i64, .xs (.int .u16) 256], [.sl (.int .u8), .int .i64], g_ring_Encode⟩) (he_ref13_Encode : SigOk Go.Proofs.Try.prog 31 ⟨[.int .i64, .xs (.int .u16) 256], [.sl (.int .u8), .int .i64], g_ref13_Encode⟩) (he_ring_Decode : SigOk Go.Proofs.Try.prog 32 ⟨[.int .i64, .sl (.int .u8)], [.xs (.int .u16) 256, .int .i64], g_ring_Decode⟩) (he_ref13_Decode : SigOk Go.Proofs.Try.prog 33 ⟨[.int .i64, .sl (.int .u8)], [.xs (.int .u16) 256, .int .i64], g_ref13_Decode⟩) (he_law13_live : SigOk Go.Proofs.Try.prog 18 ⟨[], [.bool], g_law13_live⟩) (he_ref01_Equal : SigOk Go.Proofs.Try.prog 34 ⟨[.sl (.int .u8), .sl (.int .u8)], [.bool], g_ref01_Equal⟩) (he_ring_Canon : SigOk Go.Proofs.Try.prog 35 ⟨[.sl (.int .u8)], [.bool], g_ring_Canon⟩) (he_ref13_Canon : SigOk Go.Proofs.Try.prog 36 ⟨[.sl (.int .u8)], [.bool], g_ref13_Canon⟩) : p_law13_RingCodes_E.Ok Go.Proofs.Try.prog := AE.of_ok (all_cons ty4_ok (all_cons ty22_ok (all_cons ty24_ok all_nil))) (all_cons ⟨he_ring_Encode, enters_ring_Encode⟩ (all_cons ⟨he_ref13_Encode, enters_ref13_Encode⟩ (all_cons ⟨he_ring_Decode, enters_ring_Decode⟩ (all_cons ⟨he_ref13_Decode, enters_ref13_Decode⟩ (all_cons ⟨he_law13_live, enters_law13_live⟩ (all_cons ⟨he_ref01_Equal, enters_ref01_Equal⟩ (all_cons ⟨he_ring_Canon, enters_ring_Canon⟩ (all_cons ⟨he_ref13_Canon, enters_ref13_Canon⟩ all_nil))))))))
theorem p_law13_RingCodes_ok (he_ring_Encode : SigOk Go.Proofs.Try.prog 30 ⟨[.int .i64, .xs (.int .u16) 256], [.sl (.int .u8), .int .i64], g_ring_Encode⟩) (he_ref13_Encode : SigOk Go.Proofs.Try.prog 31 ⟨[.int .i64, .xs (.int .u16) 256], [.sl (.int .u8), .int .i64], g_ref13_Encode⟩) (he_ring_Decode : SigOk Go.Proofs.Try.prog 32 ⟨[.int .i64, .sl (.int .u8)], [.xs (.int .u16) 256, .int .i64], g_ring_Decode⟩) (he_ref13_Decode : SigOk Go.Proofs.Try.prog 33 ⟨[.int .i64, .sl (.int .u8)], [.xs (.int .u16) 256, .int .i64], g_ref13_Decode⟩) (he_law13_live : SigOk Go.Proofs.Try.prog 18 ⟨[], [.bool], g_law13_live⟩) (he_ref01_Equal : SigOk Go.Proofs.Try.prog 34 ⟨[.sl (.int .u8), .sl (.int .u8)], [.bool], g_ref01_Equal⟩) (he_ring_Canon : SigOk Go.Proofs.Try.prog 35 ⟨[.sl (.int .u8)], [.bool], g_ring_Canon⟩) (he_ref13_Canon : SigOk Go.Proofs.Try.prog 36 ⟨[.sl (.int .u8)], [.bool], g_ref13_Canon⟩) {g : Ds [.int .i64, .xs (.int .u16) 256, .sl (.int .u8)] → Option (Rs [.bool])} (hg : ∀ x r, g x = some r → ∃ N, p_law13_RingCodes N x = some r) : SigOk Go.Proofs.Try.prog 9 ⟨[.int .i64, .xs (.int .u16) 256, .sl (.int .u8)], [.bool], g⟩ :=
  fun_of (E := p_law13_RingCodes_E) (H := p_law13_RingCodes_H) (L := fun N => LT.nil) (c := p_law13_RingCodes_c) (ks := p_law13_RingCodes_ks) (rs := p_law13_RingCodes_rs) (F := p_law13_RingCodes) (p_law13_RingCodes_Eok he_ring_Encode he_ref13_Encode he_ring_Decode he_ref13_Decode he_law13_live he_ref01_Equal he_ring_Canon he_ref13_Canon) mix Go.Proofs.Try.func9 (by kernel_rfl) (fun N => OkAll.nil) p_law13_RingCodes_eq hg

/-! livery/liverylaw13.RingBack -/
noncomputable def p_law13_RingBack_E : AE := AE.of [(3, ty3), (22, ty22), (24, ty24), (31, ty31), (34, ty34)] [(18, ⟨[], [.bool], g_law13_live⟩), (37, ⟨[.xs (.int .u16) 256], [.xs (.int .u16) 256], g_ring_Reduce⟩), (24, ⟨[.xs (.int .u16) 256], [.xs (.int .u16) 256], g_ring_Ntt⟩), (26, ⟨[.xs (.int .u16) 256], [.xs (.int .u16) 256], g_ring_Inv⟩), (30, ⟨[.int .i64, .xs (.int .u16) 256], [.sl (.int .u8), .int .i64], g_ring_Encode⟩), (32, ⟨[.int .i64, .sl (.int .u8)], [.xs (.int .u16) 256, .int .i64], g_ring_Decode⟩), (34, ⟨[.sl (.int .u8), .sl (.int .u8)], [.bool], g_ref01_Equal⟩), (35, ⟨[.sl (.int .u8)], [.bool], g_ring_Canon⟩)]
noncomputable def p_law13_RingBack_H : Hints := [(14, [0, 3, 5, 6, 8, 80]), (2000000, [0, 6]), (2000001, [0, 3, 5, 6, 8, 80]), (3000000, [4])]
noncomputable def p_law13_RingBack_c : Code := (Go.Proofs.Try.f12).body.getD .skip
noncomputable def p_law13_RingBack_l14_S : Shape where
  h := { tmps := [.sc (.int .i64), .any, .any, .sc (.ptr 0 0 false), .any, .sc (.ptr 1 0 false), .sc (.vec 2 none 1), .any, .sc (.ptr 3 0 false), .any, .any, .any, .any, .any, .any, .any, .any, .any, .any, .any, .any, .any, .any, .any, .any, .any, .any, .any, .any, .any, .any, .any, .any, .any, .any, .any, .any, .any, .any, .any, .any, .any, .any, .any, .any, .any, .any, .any, .any, .any, .any, .any, .any, .any, .any, .any, .any, .any, .any, .any, .any, .any, .any, .any, .any, .any, .any, .any, .any, .any, .any, .any, .any, .any, .any, .any, .any, .any, .any, .any, .sc (.int .i64), .any, .any, .any, .any, .any, .any, .any, .any, .any, .any, .any, .any, .any, .any, .any, .any, .any, .any, .any, .any, .any, .any, .any, .any, .any, .any], mem := [.live [.xs (.int .u16) (some 256)] true, .live [.xs (.int .u16) (some 256)] true, .live [.xs (.int .u8) none] true, .live [.xs (.int .u16) (some 256)] true] }
  ks := [.int, .nat, .int, .xs, .xs, .nat, .xs, .xs]
  st := fun x => { tmps := [.one (.sc (.int .i64 x.1)), .one .any, .one .any, .one (.sc (.ptr 0 0 none)), .one .any, .one (.sc (.ptr 1 0 none)), .one (.sc (.vec 2 x.2.1 1)), .one .any, .one (.sc (.ptr 3 0 none)), .one .any, .one .any, .one .any, .one .any, .one .any, .one .any, .one .any, .one .any, .one .any, .one .any, .one .any, .one .any, .one .any, .one .any, .one .any, .one .any, .one .any, .one .any, .one .any, .one .any, .one .any, .one .any, .one .any, .one .any, .one .any, .one .any, .one .any, .one .any, .one .any, .one .any, .one .any, .one .any, .one .any, .one .any, .one .any, .one .any, .one .any, .one .any, .one .any, .one .any, .one .any, .one .any, .one .any, .one .any, .one .any, .one .any, .one .any, .one .any, .one .any, .one .any, .one .any, .one .any, .one .any, .one .any, .one .any, .one .any, .one .any, .one .any, .one .any, .one .any, .one .any, .one .any, .one .any, .one .any, .one .any, .one .any, .one .any, .one .any, .one .any, .one .any, .one .any, .one (.sc (.int .i64 x.2.2.1)), .one .any, .one .any, .one .any, .one .any, .one .any, .one .any, .one .any, .one .any, .one .any, .one .any, .one .any, .one .any, .one .any, .one .any, .one .any, .one .any, .one .any, .one .any, .one .any, .one .any, .one .any, .one .any, .one .any, .one .any, .one .any, .one .any], mem := [.live { segs := [.xs (.int .u16) 256 x.2.2.2.1], own := true }, .live { segs := [.xs (.int .u16) 256 x.2.2.2.2.1], own := true }, .live { segs := [.xs (.int .u8) x.2.2.2.2.2.1 x.2.2.2.2.2.2.1], own := true }, .live { segs := [.xs (.int .u16) 256 x.2.2.2.2.2.2.2.1], own := true }] }
noncomputable def p_law13_RingBack_l14_F (N : Nat) (β : Type) (x : (Int × Nat × Int × List Int × List Int × Nat × List Int × List Int × Unit)) (kn : (Int × Nat × Int × List Int × List Int × Nat × List Int × List Int × Unit) → Option β) (ke : ((Bool × Unit) ⊕ (Int × Nat × Nat × List Int × Unit)) → Option β) : Option β :=
  if (x.2.2.1 < (256:Int)) then
    if 0 ≤ x.2.2.1 then (
    if x.2.2.1 < 256 then (
    if (x.2.2.1.toNat) < 256 then (
    if (IntKind.u64.wrap x.1) < 0 then none else (
    if (ishl IntKind.u16 (1:Int) (IntKind.u64.wrap x.1)) = 0 then none else (
    if (x.1 = (12:Int)) then
      if 0 ≤ x.2.2.1 then (
      if x.2.2.1 < 256 then (
      if (x.2.2.1.toNat) < 256 then (
      if 0 ≤ x.2.2.1 then (
      if x.2.2.1 < 256 then (
      if (x.2.2.1.toNat) < 256 then (
      if ((List.getD x.2.2.2.2.2.2.2.1 (x.2.2.1.toNat) 0) ≠ (List.getD x.2.2.2.2.1 (x.2.2.1.toNat) 0)) then
        ke (.inl (false, ()))
      else
        kn (x.1, x.2.1, (IntKind.i64.wrap (x.2.2.1 + (1:Int))), x.2.2.2.1, x.2.2.2.2.1, x.2.2.2.2.2.1, x.2.2.2.2.2.2.1, x.2.2.2.2.2.2.2.1, ())) else none) else none) else none) else none) else none) else none
    else
      if 0 ≤ x.2.2.1 then (
      if x.2.2.1 < 256 then (
      if (x.2.2.1.toNat) < 256 then (
      if ((List.getD x.2.2.2.2.2.2.2.1 (x.2.2.1.toNat) 0) ≠ (Int.tmod (List.getD x.2.2.2.1 (x.2.2.1.toNat) 0) (ishl IntKind.u16 (1:Int) (IntKind.u64.wrap x.1)))) then
        ke (.inl (false, ()))
      else
        kn (x.1, x.2.1, (IntKind.i64.wrap (x.2.2.1 + (1:Int))), x.2.2.2.1, x.2.2.2.2.1, x.2.2.2.2.2.1, x.2.2.2.2.2.2.1, x.2.2.2.2.2.2.2.1, ())) else none) else none) else none))) else none) else none) else none
  else
    ke (.inr (x.1, x.2.1, x.2.2.2.2.2.1, x.2.2.2.2.2.2.1, ()))
noncomputable def p_law13_RingBack_l14_go : Go' ((Bool × Unit) ⊕ (Int × Nat × Nat × List Int × Unit)) := fun y K => match y with
  | .inl y => K .ret { tmps := [.one .any, .one .any, .one .any, .one .any, .one (.sc (.known y.1)), .one .any, .one .any, .one .any, .one .any, .one .any, .one .any, .one .any, .one .any, .one .any, .one .any, .one .any, .one .any, .one .any, .one .any, .one .any, .one .any, .one .any, .one .any, .one .any, .one .any, .one .any, .one .any, .one .any, .one .any, .one .any, .one .any, .one .any, .one .any, .one .any, .one .any, .one .any, .one .any, .one .any, .one .any, .one .any, .one .any, .one .any, .one .any, .one .any, .one .any, .one .any, .one .any, .one .any, .one .any, .one .any, .one .any, .one .any, .one .any, .one .any, .one .any, .one .any, .one .any, .one .any, .one .any, .one .any, .one .any, .one .any, .one .any, .one .any, .one .any, .one .any, .one .any, .one .any, .one .any, .one .any, .one .any, .one .any, .one .any, .one .any, .one .any, .one .any, .one .any, .one .any, .one .any, .one .any, .one .any, .one .any, .one .any, .one .any, .one .any, .one .any, .one .any, .one .any, .one .any, .one .any, .one .any, .one .any, .one .any, .one .any, .one .any, .one .any, .one .any, .one .any, .one .any, .one .any, .one .any, .one .any, .one .any, .one .any, .one .any, .one .any, .one .any], mem := [] }
  | .inr y => K (.exit 0) { tmps := [.one (.sc (.int .i64 y.1)), .one .any, .one .any, .one .any, .one .any, .one .any, .one (.sc (.vec 0 y.2.1 1)), .one .any, .one .any, .one .any, .one .any, .one .any, .one .any, .one .any, .one .any, .one .any, .one .any, .one .any, .one .any, .one .any, .one .any, .one .any, .one .any, .one .any, .one .any, .one .any, .one .any, .one .any, .one .any, .one .any, .one .any, .one .any, .one .any, .one .any, .one .any, .one .any, .one .any, .one .any, .one .any, .one .any, .one .any, .one .any, .one .any, .one .any, .one .any, .one .any, .one .any, .one .any, .one .any, .one .any, .one .any, .one .any, .one .any, .one .any, .one .any, .one .any, .one .any, .one .any, .one .any, .one .any, .one .any, .one .any, .one .any, .one .any, .one .any, .one .any, .one .any, .one .any, .one .any, .one .any, .one .any, .one .any, .one .any, .one .any, .one .any, .one .any, .one .any, .one .any, .one .any, .one .any, .one .any, .one .any, .one .any, .one .any, .one .any, .one .any, .one .any, .one .any, .one .any, .one .any, .one .any, .one .any, .one .any, .one .any, .one .any, .one .any, .one .any, .one .any, .one .any, .one .any, .one .any, .one .any, .one .any, .one .any, .one .any, .one .any, .one .any], mem := [.live { segs := [.xs (.int .u8) y.2.2.1 y.2.2.2.1], own := true }] }
noncomputable def p_law13_RingBack_l14_L (N : Nat) : LT := upd (LT.nil) 14 (loopE p_law13_RingBack_l14_S N (p_law13_RingBack_l14_F N) p_law13_RingBack_l14_go)
theorem p_law13_RingBack_l14_ok (N : Nat) : OkAll p_law13_RingBack_E p_law13_RingBack_H N (p_law13_RingBack_l14_L N) (subs p_law13_RingBack_c) :=
  addLoop (c := theLoop 14 p_law13_RingBack_c) (OkAll.nil) (by kernel_rfl) (fun x => by kernel_rfl) (fun β x kn ke => by kernel_rfl)
abbrev p_law13_RingBack_ks : List Kd := [.int .i64, .xs (.int .u16) 256]
abbrev p_law13_RingBack_rs : List Kd := [.bool]
noncomputable def p_law13_RingBack (N : Nat) (x : Int × List Int × Unit) : Option (Bool) :=
  (g_law13_live (())).bind fun r1 => (
  if (¬ (r1 = true)) then
    some false
  else
    (g_ring_Reduce (x.2.1, ())).bind fun r2 => (
    (g_ring_Ntt (x.2.1, ())).bind fun r3 => (
    (g_ring_Inv (r3, ())).bind fun r4 => (
    if (r4 ≠ r2) then
      some false
    else
      (g_ring_Inv (x.2.1, ())).bind fun r5 => (
      (g_ring_Ntt (r5, ())).bind fun r6 => (
      if (r6 ≠ r2) then
        some false
      else
        (g_ring_Encode (x.1, x.2.1, ())).bind fun r7 => (
        if (r7.2 ≠ (0:Int)) then
          if (x.1 < (1:Int)) then
            some (decide ((((List.length r7.1) : Nat) : Int) = (0:Int)))
          else
            if (x.1 > (12:Int)) then
              some (decide ((((List.length r7.1) : Nat) : Int) = (0:Int)))
            else
              some false
        else
          (g_ring_Decode (x.1, r7.1, ())).bind fun r8 => (
          (g_ring_Encode (x.1, r8.1, ())).bind fun r9 => (
          if (r8.2 ≠ (0:Int)) then
            some false
          else
            if (r9.2 ≠ (0:Int)) then
              some false
            else
              (g_ref01_Equal (r7.1, r9.1, ())).bind fun r10 => (
              if (¬ (r10 = true)) then
                some false
              else
                if ((((List.length r7.1) : Nat) : Int) ≠ (IntKind.i64.wrap ((32:Int) * x.1))) then
                  some false
                else
                  iter (p_law13_RingBack_l14_F N) N (x.1, (List.length r7.1), (0:Int), x.2.1, r2, (List.length r7.1), r7.1, r8.1, ()) fun y => (match y with
                  | .inl y11 => (
                    some y11.1)
                  | .inr y12 => (
                    if (y12.1 < (12:Int)) then
                      some true
                    else
                      (g_ring_Canon (y12.2.2.2.1, ())).bind fun r13 => (
                      some (decide (r13 = true)))))))))))))))
theorem p_law13_RingBack_eq (N : Nat) (x : Ds [.int .i64, .xs (.int .u16) 256]) : funL p_law13_RingBack_E p_law13_RingBack_H (p_law13_RingBack_l14_L N) N Go.Proofs.Try.f12 p_law13_RingBack_c [.int .i64, .xs (.int .u16) 256] [.bool] x = p_law13_RingBack N x := by kernel_rfl
theorem p_law13_RingBack_Eok (he_law13_live : SigOk Go.Proofs.Try.prog 18 ⟨[], [.bool], g_law13_live⟩) (he_ring_Reduce : SigOk Go.Proofs.Try.prog 37 ⟨[.xs (.int .u16) 256], [.xs (.int .u16) 256], g_ring_Reduce⟩) (he_ring_Ntt : SigOk Go.Proofs.Try.prog 24 ⟨[.xs (.int .u16) 256], [.xs (.int .u16) 256], g_ring_Ntt⟩) (he_ring_Inv : SigOk Go.Proofs.Try.prog 26 ⟨[.xs (.int .u16) 256], [.xs (.int .u16) 256], g_ring_Inv⟩) (he_ring_Encode : SigOk Go.Proofs.Try.prog 30 ⟨[.int .i64, .xs (.int .u16) 256], [.sl (.int .u8), .int .i64], g_ring_Encode⟩) (he_ring_Decode : SigOk Go.Proofs.Try.prog 32 ⟨[.int .i64, .sl (.int .u8)], [.xs (.int .u16) 256, .int .i64], g_ring_Decode⟩) (he_ref01_Equal : SigOk Go.Proofs.Try.prog 34 ⟨[.sl (.int .u8), .sl (.int .u8)], [.bool], g_ref01_Equal⟩) (he_ring_Canon : SigOk Go.Proofs.Try.prog 35 ⟨[.sl (.int .u8)], [.bool], g_ring_Canon⟩) : p_law13_RingBack_E.Ok Go.Proofs.Try.prog := AE.of_ok (all_cons ty3_ok (all_cons ty22_ok (all_cons ty24_ok (all_cons ty31_ok (all_cons ty34_ok all_nil))))) (all_cons ⟨he_law13_live, enters_law13_live⟩ (all_cons ⟨he_ring_Reduce, enters_ring_Reduce⟩ (all_cons ⟨he_ring_Ntt, enters_ring_Ntt⟩ (all_cons ⟨he_ring_Inv, enters_ring_Inv⟩ (all_cons ⟨he_ring_Encode, enters_ring_Encode⟩ (all_cons ⟨he_ring_Decode, enters_ring_Decode⟩ (all_cons ⟨he_ref01_Equal, enters_ref01_Equal⟩ (all_cons ⟨he_ring_Canon, enters_ring_Canon⟩ all_nil))))))))
theorem p_law13_RingBack_ok (he_law13_live : SigOk Go.Proofs.Try.prog 18 ⟨[], [.bool], g_law13_live⟩) (he_ring_Reduce : SigOk Go.Proofs.Try.prog 37 ⟨[.xs (.int .u16) 256], [.xs (.int .u16) 256], g_ring_Reduce⟩) (he_ring_Ntt : SigOk Go.Proofs.Try.prog 24 ⟨[.xs (.int .u16) 256], [.xs (.int .u16) 256], g_ring_Ntt⟩) (he_ring_Inv : SigOk Go.Proofs.Try.prog 26 ⟨[.xs (.int .u16) 256], [.xs (.int .u16) 256], g_ring_Inv⟩) (he_ring_Encode : SigOk Go.Proofs.Try.prog 30 ⟨[.int .i64, .xs (.int .u16) 256], [.sl (.int .u8), .int .i64], g_ring_Encode⟩) (he_ring_Decode : SigOk Go.Proofs.Try.prog 32 ⟨[.int .i64, .sl (.int .u8)], [.xs (.int .u16) 256, .int .i64], g_ring_Decode⟩) (he_ref01_Equal : SigOk Go.Proofs.Try.prog 34 ⟨[.sl (.int .u8), .sl (.int .u8)], [.bool], g_ref01_Equal⟩) (he_ring_Canon : SigOk Go.Proofs.Try.prog 35 ⟨[.sl (.int .u8)], [.bool], g_ring_Canon⟩) {g : Ds [.int .i64, .xs (.int .u16) 256] → Option (Rs [.bool])} (hg : ∀ x r, g x = some r → ∃ N, p_law13_RingBack N x = some r) : SigOk Go.Proofs.Try.prog 12 ⟨[.int .i64, .xs (.int .u16) 256], [.bool], g⟩ :=
  fun_of (E := p_law13_RingBack_E) (H := p_law13_RingBack_H) (L := fun N => p_law13_RingBack_l14_L N) (c := p_law13_RingBack_c) (ks := p_law13_RingBack_ks) (rs := p_law13_RingBack_rs) (F := p_law13_RingBack) (p_law13_RingBack_Eok he_law13_live he_ring_Reduce he_ring_Ntt he_ring_Inv he_ring_Encode he_ring_Decode he_ref01_Equal he_ring_Canon) mix Go.Proofs.Try.func12 (by kernel_rfl) (fun N => p_law13_RingBack_l14_ok N) p_law13_RingBack_eq hg
end Go.Ax.TryP
/-! ### Octets of numbers, and numbers of octets: the walks -/
namespace Go.Ax.TryP

theorem dm {i d k : Nat} (hk : k < d) : (i * d + k) / d = i ∧ (i * d + k) % d = k := by
  constructor
  · rw [Nat.mul_comm, Nat.mul_add_div (by omega), Nat.div_eq_of_lt hk, Nat.add_zero]
  · rw [Nat.mul_comm, Nat.mul_add_mod, Nat.mod_eq_of_lt hk]
theorem id_le {i d n : Nat} (hi : i < n) : i * d + d ≤ n * d := by
  have h : (i + 1) * d ≤ n * d := Nat.mul_le_mul_right d hi
  rwa [Nat.succ_mul] at h
theorem encE_at {d i k : Nat} (a : List Int) (hk : k < d) : encE d a (i * d + k) = bitI (encV d (a.getD i 0)) k := by
  unfold encE; rw [(dm hk).1, (dm hk).2]
theorem encE_b (d : Nat) (a : List Int) (t : Nat) : 0 ≤ encE d a t ∧ encE d a t ≤ 1 := bitI_b _ _
theorem fBytes_congr {e e' : Nat → Int} {n : Nat} (h : ∀ t, t < 8 * n → e t = e' t) : fBytes e n = fBytes e' n :=
  List.map_congr_left fun j hj => sumB_congr fun s hs => h _ (by have := List.mem_range.1 hj; omega)
theorem wf_ip {d : Int} {a : List Int} : wfAll [.int .i64, .xs (.int .u16) 256] (d, a, ()) ↔ (-9223372036854775808 ≤ d ∧ d ≤ 9223372036854775807) ∧ u16s 256 a := by
  have : Kd.wf (.int .i64) d ↔ -9223372036854775808 ≤ d ∧ d ≤ 9223372036854775807 := okInt_i64
  simp only [wfAll, wf_u16s, and_true, this]

theorem enc_loop {d : Nat} {a A : List Int} (h0 : 1 ≤ d) (h1 : d ≤ 12) (hA : ∀ i, i < 256 → A.getD i 0 = encV d (a.getD i 0)) (hu : u16s 256 A) {β : Type} {K : _ → Option β} :
    iter (p_ring_Encode_l7_F 300) 300 ((d : Int), 32 * d, A, (0 : Int), 32 * d, List.replicate (32 * d) 0, ()) K = K (32 * d, 32 * d, fBytes (encE d a) (32 * d), ()) := by
  have e0 : List.replicate (32 * d) 0 = fBytes (upTo (encE d a) (0 * d)) (32 * d) := by rw [Nat.zero_mul, fBytes_zero]
  rw [e0]
  refine (iter_run (F := p_ring_Encode_l7_F 300) (s := fun i => ((d : Int), 32 * d, A, (i : Int), 32 * d, fBytes (upTo (encE d a) (i * d)) (32 * d), ())) (y := (32 * d, 32 * d, fBytes (encE d a) (32 * d), ())) 256 ?_ ?_ 300 (by omega))
  · intro i hi kn
    have hz := hu.at i
    unfold p_ring_Encode_l7_F
    dsimp only
    rw [if_pos (by omega), if_pos (by omega), if_pos (by omega), if_pos (by omega), Int.toNat_natCast]
    refine (iter_run (F := p_ring_Encode_l10_F 300) (s := fun k => ((d : Int), 32 * d, (i : Int), A.getD i 0, A, (i : Int), (d : Int), (k : Int), 32 * d, fBytes (upTo (encE d a) (i * d + k)) (32 * d), ()))
      (y := ((d : Int), 32 * d, A, (i : Int), 32 * d, fBytes (upTo (encE d a) (i * d + d)) (32 * d), ())) d ?_ ?_ 300 (by omega)).trans ?_
    · intro k hk kn
      have hle := id_le (d := d) hi
      have hb := bitI_b (A.getD i 0) k
      have ee := encE_at (i := i) a hk
      have em : (i : Int) * d = ((i * d : Nat) : Int) := by simp
      have ea : ((i * d : Nat) : Int) + k = ((i * d + k : Nat) : Int) := by simp
      have ed : ((i * d + k : Nat) : Int) / 8 = (((i * d + k) / 8 : Nat) : Int) := by omega
      have er : ((i * d + k : Nat) : Int) % 8 = (((i * d + k) % 8 : Nat) : Int) := by omega
      unfold p_ring_Encode_l10_F
      dsimp only
      rw [if_pos (by omega), em, wrap_i64 (x := ((i * d : Nat) : Int)) (by omega) (by omega), ea, wrap_i64 (x := ((i * d + k : Nat) : Int)) (by omega) (by omega), tdiv_pos (by omega), tmod_pos (by omega), ed, er,
        wrap_i64 (x := (((i * d + k) / 8 : Nat) : Int)) (by omega) (by omega)]
      simp (disch := omega) only [if_pos, if_neg, Int.toNat_natCast]
      rw [bit_u16 hz.1 hz.2 (show k ≤ 16 by omega), wrap_u8 hb.1 (by omega), hA i hi, ← ee, fBytes_step (fun t _ => encE_b d a t) (by omega), wrap_i64 (by omega) (by omega), Int.natCast_add]
      rfl
    · intro kn
      unfold p_ring_Encode_l10_F
      dsimp only
      rw [if_neg (by omega)]
    · dsimp only
      rw [wrap_i64 (by omega) (by omega), Int.natCast_add, show (i + 1) * d = i * d + d from Nat.succ_mul i d]
      rfl
  · intro kn
    unfold p_ring_Encode_l7_F
    dsimp only
    rw [if_neg (by omega), show 256 * d = 8 * (32 * d) by omega, fBytes_all]
theorem q_ring_Encode : ∀ x r, g_ring_Encode x = some r → ∃ N, p_ring_Encode N x = some r := by
  refine Spec_of (ks := p_ring_Encode_ks) (rs := p_ring_Encode_rs) fun x hw _ => ⟨300, ?_⟩
  obtain ⟨(d : Int), (a : List Int), u⟩ := x
  obtain ⟨hd, ha⟩ := wf_ip.1 hw
  show _ = some (fEncode d a)
  unfold p_ring_Encode fEncode
  dsimp only
  by_cases h0 : d < 1
  · rw [if_pos h0, if_pos (.inl h0)]
  rw [if_neg h0]
  by_cases h1 : 12 < d
  · rw [if_pos h1, if_pos (.inr h1)]
  have hr : ¬(d < 1 ∨ 12 < d) := by omega
  rw [if_neg h1, if_neg hr, wrap_i64 (by omega) (by omega)]
  obtain ⟨n, rfl⟩ : ∃ n : Nat, d = n := ⟨d.toNat, by omega⟩
  have e1 : ((32 : Int) * n).toNat = 32 * n := by omega
  rw [e1, Int.toNat_natCast]
  by_cases h12 : (n : Int) = 12
  · rw [if_pos h12, at37 ha]
    simp only [Option.bind_some]
    rw [if_pos (by omega), if_pos trivial, if_pos (by omega)]
    refine (enc_loop (d := n) (a := a) (A := fRed a) (by omega) (by omega) (fun i hi => ?_) (red_fRed a).u16).trans rfl
    rw [encV, if_pos (by omega), fRed, poly_getD hi]
  · rw [if_neg h12, if_pos (by omega), if_pos rfl, if_pos (by omega)]
    refine (enc_loop (d := n) (a := a) (A := a) (by omega) (by omega) (fun i _ => ?_) ha).trans rfl
    rw [encV, if_neg (by omega)]

theorem bitI_mod {x : Int} (hx : 0 ≤ x) {d k : Nat} (hk : k < d) : bitI (x % 2 ^ d) k = bitI x k := by
  rw [← sumB_bitI hx, bitI_sumB (fun s _ => bitI_b x s) hk]
def refV (d : Nat) (z : Int) : Int := if d = 12 then z % 3329 else z % 2 ^ d
theorem refV_b {d : Nat} {z : Int} (hd : d ≤ 12) : 0 ≤ refV d z ∧ refV d z ≤ 4096 := by
  have := pow_le hd
  have h0 := pow2_pos d
  unfold refV
  split
  · omega
  · have h1 := Int.emod_nonneg z (b := 2 ^ d) (by omega)
    have h2 := Int.emod_lt_of_pos z h0
    omega
theorem refV_bit {d k : Nat} {z : Int} (hz : 0 ≤ z) (hk : k < d) : bitI (refV d z) k = bitI (encV d z) k := by
  unfold refV encV
  split
  · rfl
  · exact bitI_mod hz hk
theorem q_ref13_Encode : ∀ x r, g_ref13_Encode x = some r → ∃ N, p_ref13_Encode N x = some r := by
  refine Spec_of (ks := p_ref13_Encode_ks) (rs := p_ref13_Encode_rs) fun x hw _ => ⟨300, ?_⟩
  obtain ⟨(d : Int), (a : List Int), u⟩ := x
  obtain ⟨hd, ha⟩ := wf_ip.1 hw
  show _ = some (fEncode d a)
  unfold p_ref13_Encode fEncode
  dsimp only
  by_cases h0 : d < 1
  · rw [if_pos h0, if_pos (.inl h0)]
  rw [if_neg h0]
  by_cases h1 : 12 < d
  · rw [if_pos h1, if_pos (.inr h1)]
  have hr : ¬(d < 1 ∨ 12 < d) := by omega
  rw [if_neg h1, if_neg hr]
  obtain ⟨n, rfl⟩ : ∃ n : Nat, d = n := ⟨d.toNat, by omega⟩
  rw [Int.toNat_natCast]
  have hn : n ≤ 12 := by omega
  refine (iter_from (F := p_ref13_Encode_l5_F 300) (s := fun i => ((n : Int), i * n, (i : Int), a, i * n, (List.range (i * n)).map (encE n a), ())) (y := (256 * n, 256 * n, (List.range (256 * n)).map (encE n a), ())) 256 ?_ ?_ ?_ 300 (by omega)).trans ?_
  · simp only [Nat.zero_mul]; rfl
  · intro i hi kn
    have hz := ha.at i
    have hr := refV_b (z := a.getD i 0) hn
    have hp := pow2_pos n
    have hp2 := pow_le hn
    have body : ∀ kn : Int × Nat × Int × List Int × Nat × List Int × Unit → Option (List Int × Int), iter (p_ref13_Encode_l11_F 300) 300 ((n : Int), i * n, refV n (a.getD i 0), (i : Int), (n : Int), 0, a, i * n, (List.range (i * n)).map (encE n a), ()) kn
        = kn ((n : Int), (i + 1) * n, (i : Int), a, (i + 1) * n, (List.range ((i + 1) * n)).map (encE n a), ()) := by
      intro kn
      refine iter_from (F := p_ref13_Encode_l11_F 300) (s := fun k => ((n : Int), i * n + k, refV n (a.getD i 0) / 2 ^ k, (i : Int), (n : Int), (k : Int), a, i * n + k, (List.range (i * n + k)).map (encE n a), ()))
        (y := ((n : Int), (i + 1) * n, (i : Int), a, (i + 1) * n, (List.range ((i + 1) * n)).map (encE n a), ())) n ?_ ?_ ?_ 300 (by omega)
      · rw [Int.pow_zero, Int.ediv_one]
        rfl
      · intro k hk kn
        have hle := id_le (d := n) hi
        have hpk : (0 : Int) < 2 ^ k := pow2_pos k
        have h1 : 0 ≤ refV n (a.getD i 0) / 2 ^ k := Int.ediv_nonneg hr.1 (Int.le_of_lt hpk)
        have h2 : refV n (a.getD i 0) / 2 ^ k ≤ refV n (a.getD i 0) := Int.ediv_le_self _ hr.1
        have e1 : refV n (a.getD i 0) / 2 ^ k / 2 = refV n (a.getD i 0) / 2 ^ (k + 1) := by rw [Int.ediv_ediv_of_nonneg (Int.le_of_lt hpk), Int.pow_succ]
        have e2 : (if refV n (a.getD i 0) / 2 ^ k % 2 = 1 then (1 : Int) else 0) = encE n a (i * n + k) := by
          rw [encE_at a hk, ← refV_bit hz.1 hk]
          unfold bitI
          split <;> omega
        unfold p_ref13_Encode_l11_F
        dsimp only
        rw [if_pos (by omega), if_pos (by omega), tdiv_pos h1, tmod_pos h1, e1, wrap_i64 (x := refV n (a.getD i 0) / 2 ^ (k + 1)) (by omega) (by omega), wrap_i64 (by omega) (by omega)]
        simp only [e2, one_set, map_range_succ]
        rw [Int.natCast_add]
        rfl
      · intro kn
        unfold p_ref13_Encode_l11_F
        dsimp only
        rw [if_neg (by omega), show (i + 1) * n = i * n + n from Nat.succ_mul i n]
    unfold p_ref13_Encode_l5_F
    dsimp only
    rw [if_pos (by omega), if_pos (by omega), if_pos (by omega), if_pos (by omega), at45 (by omega)]
    simp only [Option.bind_some, Int.toNat_natCast]
    rw [if_neg (by omega)]
    by_cases h12 : n = 12
    · rw [if_pos (by omega), if_pos (by omega), if_pos (by omega), if_pos (by omega), wrap_i64 (by omega) (by omega), tmod_pos (by omega)]
      have : a.getD i 0 % 3329 = refV n (a.getD i 0) := by rw [refV, if_pos h12]
      rw [this]
      refine (body _).trans ?_
      dsimp only
      rw [wrap_i64 (by omega) (by omega), Int.natCast_add]
      rfl
    · rw [if_neg (by omega), wrap_i64 (by omega) (by omega), tmod_pos (by omega)]
      have : a.getD i 0 % 2 ^ n = refV n (a.getD i 0) := by rw [refV, if_neg h12]
      rw [this]
      refine (body _).trans ?_
      dsimp only
      rw [wrap_i64 (by omega) (by omega), Int.natCast_add]
      rfl
  · intro kn
    unfold p_ref13_Encode_l5_F
    dsimp only
    rw [if_neg (by omega)]
  · dsimp only
    rw [at_FromBits (by simp; omega) (fun z hz => by obtain ⟨t, _, rfl⟩ := List.mem_map.1 hz; have := encE_b n a t; omega)]
    simp only [Option.bind_some, List.length_map, List.length_range]
    rw [show (256 * n + 7) / 8 = 32 * n by omega]
    rw [fBytes_congr (e' := encE n a) fun t ht => map_range_getD (by omega)]

theorem num_b {d : Nat} (b : List Int) (i : Nat) (hd : d ≤ 12) : 0 ≤ num d b i ∧ num d b i < 4096 := by
  have := sumB_b (n := d) (c := fun k => bitAt b (i * d + k)) fun s _ => bitAt_b b _
  have := pow_le hd
  unfold num
  omega
theorem set_self {l : List Int} {i : Nat} {v : Int} (h : l.getD i 0 = v) (hi : i < l.length) : l.set i v = l := by
  subst h
  refine rows.ext (by simp) rfl fun j _ => ?_
  by_cases hj : i = j
  · subst hj; exact getD_set_eq hi
  · exact getD_set_ne hj
theorem q_ring_raw : ∀ x r, g_ring_raw x = some r → ∃ N, p_ring_raw N x = some r := by
  refine Spec_of (ks := p_ring_raw_ks) (rs := p_ring_raw_rs) fun x hw hq => ⟨300, ?_⟩
  obtain ⟨(d : Int), (b : List Int), u⟩ := x
  obtain ⟨hd, hb⟩ := wf_ib.1 hw
  obtain ⟨h0, h1, hl⟩ : 1 ≤ d ∧ d ≤ 12 ∧ (b.length : Int) = 32 * d := hq
  show _ = some (fRaw d.toNat b)
  unfold p_ring_raw
  have hZ : (List.replicate 256 (0 : Int)).length = 256 := List.length_replicate ..
  have hZ0 : ∀ i, (List.replicate 256 (0 : Int)).getD i 0 = 0 := getD_replicate 256
  dsimp only
  generalize List.replicate 256 (0 : Int) = Z at hZ hZ0 ⊢
  obtain ⟨n, rfl⟩ : ∃ n : Nat, d = n := ⟨d.toNat, by omega⟩
  rw [Int.toNat_natCast]
  have hn : n ≤ 12 := by omega
  refine (iter_run (F := p_ring_raw_l3_F 300) (s := fun i => ((n : Int), b.length, (i : Int), b.length, b, Z, part (num n b) i Z, ())) (y := (Z, fRaw n b, ())) 256 ?_ ?_ 300 (by omega)).trans ?_
  · intro i hi kn
    have hpl : (part (num n b) i Z).length = 256 := by rw [part_length (by omega), hZ]
    unfold p_ring_raw_l3_F
    dsimp only
    rw [if_pos (by omega)]
    refine (iter_from (F := p_ring_raw_l6_F 300) (s := fun k => ((n : Int), b.length, (i : Int), (i : Int), (n : Int), (k : Int), b.length, b, Z, (part (num n b) i Z).set i (sumB k fun k => bitAt b (i * n + k)), ()))
      (y := ((n : Int), b.length, (i : Int), b.length, b, Z, part (num n b) (i + 1) Z, ())) n ?_ ?_ ?_ 300 (by omega)).trans ?_
    · rw [set_self (by rw [part_getD (Nat.le_refl i), hZ0]; rfl) (by omega)]
      rfl
    · intro k hk kn
      have hle := id_le (d := n) hi
      have hz := byte_at hb.2 ((i * n + k) / 8)
      have hbit := bitAt_b b (i * n + k)
      have em : (i : Int) * n = ((i * n : Nat) : Int) := by simp
      have ea : ((i * n : Nat) : Int) + k = ((i * n + k : Nat) : Int) := by simp
      have ed : ((i * n + k : Nat) : Int) / 8 = (((i * n + k) / 8 : Nat) : Int) := by omega
      have er : ((i * n + k : Nat) : Int) % 8 = (((i * n + k) % 8 : Nat) : Int) := by omega
      have hs := sumB_b (n := k) (c := fun k => bitAt b (i * n + k)) fun s _ => bitAt_b b _
      unfold p_ring_raw_l6_F
      dsimp only
      rw [if_pos (by omega), em, wrap_i64 (x := ((i * n : Nat) : Int)) (by omega) (by omega), ea, wrap_i64 (x := ((i * n + k : Nat) : Int)) (by omega) (by omega), tdiv_pos (by omega), tmod_pos (by omega), ed, er,
        wrap_i64 (x := (((i * n + k) / 8 : Nat) : Int)) (by omega) (by omega), wrap_i64 (by omega) (by omega)]
      simp (disch := omega) only [if_pos, if_neg, Int.toNat_natCast]
      rw [bit_u8 hz.1 hz.2 (by omega), show bitI (b.getD ((i * n + k) / 8) 0) ((i * n + k) % 8) = bitAt b (i * n + k) from rfl, wrap_u16 hbit.1 (by omega), getD_set_eq (by omega), List.set_set,
        ior_add (k := .u16) rfl hs hbit (show k < 16 by omega), Int.natCast_add]
      rfl
    · intro kn
      unfold p_ring_raw_l6_F
      dsimp only
      rw [if_neg (by omega), part_set' (h := num n b) (i := i) (a := Z) (z := sumB n fun k => bitAt b (i * n + k)) (by omega) rfl]
    · dsimp only
      rw [wrap_i64 (by omega) (by omega), Int.natCast_add]
      rfl
  · intro kn
    unfold p_ring_raw_l3_F
    dsimp only
    rw [if_neg (by omega), part_all hZ]
    rfl
  · rfl
theorem q_ref13_numbers : ∀ x r, g_ref13_numbers x = some r → ∃ N, p_ref13_numbers N x = some r := by
  refine Spec_of (ks := p_ref13_numbers_ks) (rs := p_ref13_numbers_rs) fun x hw hq => ⟨300, ?_⟩
  obtain ⟨(d : Int), (b : List Int), u⟩ := x
  obtain ⟨hd, hb⟩ := wf_ib.1 hw
  obtain ⟨h0, h1, hl⟩ : 1 ≤ d ∧ d ≤ 12 ∧ (b.length : Int) = 32 * d := hq
  show _ = some (fRaw d.toNat b)
  unfold p_ref13_numbers
  dsimp only
  obtain ⟨n, rfl⟩ : ∃ n : Nat, d = n := ⟨d.toNat, by omega⟩
  rw [at_Bits (by omega) hb.2, Int.toNat_natCast]
  simp only [Option.bind_some]
  have hn : n ≤ 12 := by omega
  have hL : (bitsOf b).length = 256 * n := by rw [bitsOf_len]; omega
  rw [hL]
  refine (iter_from (F := p_ref13_numbers_l4_F 300) (s := fun i => ((n : Int), 256 * n, i, ((i * n : Nat) : Int), 256 * n, bitsOf b, i, (List.range i).map (num n b), ())) (y := (256, 256, fRaw n b, ())) 256 ?_ ?_ ?_ 300 (by omega)).trans ?_
  · simp only [Nat.zero_mul]; rfl
  · intro i hi kn
    have hle := id_le (d := n) hi
    unfold p_ref13_numbers_l4_F
    dsimp only
    rw [if_pos (by omega)]
    refine (iter_from (F := p_ref13_numbers_l8_F 300) (s := fun k => ((n : Int), 256 * n, i, ((i * n : Nat) : Int), sumB k (fun k => bitAt b (i * n + k)), (2 : Int) ^ k, ((i * n + k : Nat) : Int), 256 * n, bitsOf b, i, (List.range i).map (num n b), ()))
      (y := ((n : Int), 256 * n, i, ((i * n : Nat) : Int), num n b i, 256 * n, bitsOf b, i, (List.range i).map (num n b), ())) n ?_ ?_ ?_ 300 (by omega)).trans ?_
    · rfl
    · intro k hk kn
      have hbit := bitAt_b b (i * n + k)
      have hs := sumB_b (n := k) (c := fun k => bitAt b (i * n + k)) fun s _ => bitAt_b b _
      have hp : (0 : Int) < 2 ^ k := pow2_pos k
      have hp2 := pow_le (n := k) (by omega)
      have q1 := bitsOf_getD (b := b) (t := i * n + k) (by omega)
      have ek : (2 : Int) ^ k * 2 = 2 ^ (k + 1) := (Int.pow_succ 2 k).symm
      unfold p_ref13_numbers_l8_F
      dsimp only
      rw [wrap_i64 (x := ((i * n : Nat) : Int) + n) (by omega) (by omega), if_pos (by omega), if_pos (by omega), if_pos (by omega), if_pos (by omega)]
      rw [wrap_i64 (x := ((i * n + k : Nat) : Int) + 1) (by omega) (by omega), wrap_i64 (x := (2 : Int) ^ k * 2) (by omega) (by omega), wrap_i64 (by omega) (by omega), ek,
        show ((i * n + k : Nat) : Int) + 1 = ((i * n + (k + 1) : Nat) : Int) by omega]
      simp only [Int.toNat_natCast, q1]
      rcases Int.lt_or_eq_of_le hbit.1 with ha | ha
      · rw [if_pos (by omega)]
        have : sumB k (fun k => bitAt b (i * n + k)) + 2 ^ k = sumB (k + 1) fun k => bitAt b (i * n + k) := by
          simp only [sumB]; rw [show bitAt b (i * n + k) = 1 by omega]; omega
        rw [this]
      · rw [if_neg (by omega)]
        have : sumB k (fun k => bitAt b (i * n + k)) = sumB (k + 1) fun k => bitAt b (i * n + k) := by
          simp only [sumB]; rw [← ha]; omega
        rw [this]
    · intro kn
      unfold p_ref13_numbers_l8_F
      dsimp only
      rw [wrap_i64 (x := ((i * n : Nat) : Int) + n) (by omega) (by omega), if_neg (by omega)]
      rfl
    · dsimp only
      rw [if_pos (by omega), wrap_i64 (by omega) (by omega), one_set, map_range_succ, show ((i * n : Nat) : Int) + n = (((i + 1) * n : Nat) : Int) by rw [Nat.succ_mul]; omega]
  · intro kn
    unfold p_ref13_numbers_l4_F
    dsimp only
    rw [if_neg (by omega)]
    rfl
  · rfl
end Go.Ax.TryP
/-! ### Octets of numbers, and numbers of octets: the laws -/
namespace Go.Ax.TryP

theorem fRaw_u16 {n : Nat} (b : List Int) (hn : n ≤ 12) : u16s 256 (fRaw n b) := poly_u16 fun i _ => by have := num_b b i hn; omega
theorem at_raw {d : Int} {b : List Int} (hd : okLen d b) (hb : b.length ≤ maxLen ∧ ∀ z ∈ b, 0 ≤ z ∧ z ≤ 255) : g_ring_raw (d, b, ()) = some (fRaw d.toNat b) :=
  Spec_at (ks := p_ring_raw_ks) (rs := p_ring_raw_rs) (x := (d, b, ())) (wf_ib.2 ⟨by unfold okLen at hd; omega, hb⟩) hd
theorem at_numbers {d : Int} {b : List Int} (hd : okLen d b) (hb : b.length ≤ maxLen ∧ ∀ z ∈ b, 0 ≤ z ∧ z ≤ 255) : g_ref13_numbers (d, b, ()) = some (fRaw d.toNat b) :=
  Spec_at (ks := p_ref13_numbers_ks) (rs := p_ref13_numbers_rs) (x := (d, b, ())) (wf_ib.2 ⟨by unfold okLen at hd; omega, hb⟩) hd

theorem q_ring_Decode : ∀ x r, g_ring_Decode x = some r → ∃ N, p_ring_Decode N x = some r := by
  refine Spec_of (ks := p_ring_Decode_ks) (rs := p_ring_Decode_rs) fun x hw _ => ⟨0, ?_⟩
  obtain ⟨(d : Int), (b : List Int), u⟩ := x
  obtain ⟨hd, hb⟩ := wf_ib.1 hw
  show _ = some (fDecode d b)
  unfold p_ring_Decode fDecode
  have hz : zeros = List.replicate 256 0 := rfl
  dsimp only
  rw [hz]
  by_cases h0 : d < 1
  · rw [if_pos h0, if_pos (.inl h0)]
  rw [if_neg h0]
  by_cases h1 : 12 < d
  · rw [if_pos h1, if_pos (.inr (.inl h1))]
  rw [if_neg h1, wrap_i64 (by omega) (by omega)]
  by_cases hl : (b.length : Int) = 32 * d
  · have hr : ¬(d < 1 ∨ 12 < d ∨ (b.length : Int) ≠ 32 * d) := by omega
    have hz : ¬((b.length : Int) ≠ 32 * d) := fun h => h hl
    rw [if_neg hz, if_neg hr, at_raw ⟨by omega, by omega, hl⟩ hb]
    simp only [Option.bind_some]
    by_cases h12 : d = 12
    · subst h12
      rw [if_pos rfl, if_pos rfl, at37 (fRaw_u16 b (by omega))]
      rfl
    · rw [if_neg h12, if_neg h12]
  · rw [if_pos hl, if_pos (.inr (.inr hl))]
theorem q_ref13_Decode : ∀ x r, g_ref13_Decode x = some r → ∃ N, p_ref13_Decode N x = some r := by
  refine Spec_of (ks := p_ref13_Decode_ks) (rs := p_ref13_Decode_rs) fun x hw _ => ⟨300, ?_⟩
  obtain ⟨(d : Int), (b : List Int), u⟩ := x
  obtain ⟨hd, hb⟩ := wf_ib.1 hw
  show _ = some (fDecode d b)
  unfold p_ref13_Decode fDecode
  have hz : zeros = List.replicate 256 0 := rfl
  have hZ : (List.replicate 256 (0 : Int)).length = 256 := List.length_replicate ..
  dsimp only
  rw [hz]
  generalize List.replicate 256 (0 : Int) = Z at hZ ⊢
  by_cases h0 : d < 1
  · rw [if_pos h0, if_pos (.inl h0)]
  rw [if_neg h0]
  by_cases h1 : 12 < d
  · rw [if_pos h1, if_pos (.inr (.inl h1))]
  rw [if_neg h1, wrap_i64 (by omega) (by omega)]
  by_cases hl : (b.length : Int) = 32 * d
  · have hr : ¬(d < 1 ∨ 12 < d ∨ (b.length : Int) ≠ 32 * d) := by omega
    have hz : ¬((b.length : Int) ≠ 32 * d) := fun h => h hl
    rw [if_neg hz, if_neg hr, at_numbers ⟨by omega, by omega, hl⟩ hb]
    simp only [Option.bind_some]
    have hlen : (fRaw d.toNat b).length = 256 := (fRaw_u16 b (by omega)).1
    rw [hlen]
    have hx : ∀ i, i < 256 → (fRaw d.toNat b).getD i 0 = num d.toNat b i := fun i hi => poly_getD hi
    have hnb : ∀ i, 0 ≤ num d.toNat b i ∧ num d.toNat b i < 4096 := fun i => num_b b i (by omega)
    refine (iter_run (F := p_ref13_Decode_l5_F 300) (s := fun i => (d, 256, 256, (i : Int), Z, part (fun j => if d = 12 then num d.toNat b j % 3329 else num d.toNat b j) i Z, 256, fRaw d.toNat b, ()))
      (y := (Z, poly (fun j => if d = 12 then num d.toNat b j % 3329 else num d.toNat b j), ())) 256 ?_ ?_ 300 (by omega)).trans ?_
    · intro i hi kn
      have hn := hnb i
      unfold p_ref13_Decode_l5_F
      dsimp only
      rw [if_pos (by omega), if_pos (by omega), if_pos (by omega), if_pos (by omega)]
      simp only [Int.toNat_natCast, hx i hi]
      by_cases h12 : d = 12
      · rw [if_pos h12, if_pos (by omega), if_pos (by omega), if_pos hi, tmod_pos hn.1, wrap_u16 (by omega) (by omega), wrap_i64 (by omega) (by omega),
          part_set' (h := fun j => if d = 12 then num d.toNat b j % 3329 else num d.toNat b j) (i := i) (a := Z) (z := num d.toNat b i % 3329) (by omega) (by rw [if_pos h12]), Int.natCast_add]
        rfl
      · rw [if_neg h12, if_pos (by omega), if_pos (by omega), if_pos hi, wrap_u16 (by omega) (by omega), wrap_i64 (by omega) (by omega),
          part_set' (h := fun j => if d = 12 then num d.toNat b j % 3329 else num d.toNat b j) (i := i) (a := Z) (z := num d.toNat b i) (by omega) (by rw [if_neg h12]), Int.natCast_add]
        rfl
    · intro kn
      unfold p_ref13_Decode_l5_F
      dsimp only
      rw [if_neg (by omega), part_all hZ]
      rfl
    · dsimp only
      by_cases h12 : d = 12
      · subst h12
        rw [if_pos rfl]
        have : poly (fun j => if (12 : Int) = 12 then num (12 : Int).toNat b j % 3329 else num (12 : Int).toNat b j) = fRed (fRaw 12 b) := poly_congr fun i hi => by
          rw [if_pos rfl]
          exact congrArg (· % 3329) (hx i hi).symm
        rw [this]
      · rw [if_neg h12]
        have : poly (fun j => if d = 12 then num d.toNat b j % 3329 else num d.toNat b j) = fRaw d.toNat b := poly_congr fun i hi => by rw [if_neg h12]
        rw [this]
  · rw [if_pos hl, if_pos (.inr (.inr hl))]
theorem q_ring_Canon : ∀ x r, g_ring_Canon x = some r → ∃ N, p_ring_Canon N x = some r := by
  refine Spec_of (ks := p_ring_Canon_ks) (rs := p_ring_Canon_rs) fun x hw _ => ⟨0, ?_⟩
  obtain ⟨(b : List Int), u⟩ := x
  have hb := wf_b1.1 hw
  show _ = some (fCanon b)
  unfold p_ring_Canon fCanon
  dsimp only
  by_cases hl : (b.length : Int) = 384
  · have hz : ¬((b.length : Int) ≠ 384) := fun h => h hl
    rw [if_neg hz, at_raw ⟨by omega, by omega, by omega⟩ hb]
    simp only [Option.bind_some]
    rw [at37 (fRaw_u16 b (by decide))]
    simp only [Option.bind_some]
    rw [show (12 : Int).toNat = 12 from rfl]
    congr 1
    exact decide_eq_decide.2 ⟨fun h => ⟨by omega, h⟩, fun h => h.2⟩
  · rw [if_pos hl]
    congr 1
    exact (decide_eq_false fun h => by omega).symm
theorem q_ref13_Canon : ∀ x r, g_ref13_Canon x = some r → ∃ N, p_ref13_Canon N x = some r := by
  refine Spec_of (ks := p_ref13_Canon_ks) (rs := p_ref13_Canon_rs) fun x hw _ => ⟨300, ?_⟩
  obtain ⟨(b : List Int), u⟩ := x
  have hb := wf_b1.1 hw
  show _ = some (fCanon b)
  unfold p_ref13_Canon fCanon
  dsimp only
  by_cases hl : (b.length : Int) = 384
  · have hz : ¬((b.length : Int) ≠ 384) := fun h => h hl
    rw [if_neg hz, at_numbers ⟨by omega, by omega, by omega⟩ hb]
    simp only [Option.bind_some]
    rw [show (12 : Int).toNat = 12 from rfl, (fRaw_u16 b (by decide : (12 : Nat) ≤ 12)).1]
    have hx : ∀ i, i < 256 → (fRaw 12 b).getD i 0 = num 12 b i := fun i hi => poly_getD hi
    have go : ∀ i, i < 256 → num 12 b i < 3329 → ∀ kn ke, p_ref13_Canon_l4_F 300 Bool (256, (256 : Int), (i : Int), 256, fRaw 12 b, ()) kn ke = kn (256, 256, ((i + 1 : Nat) : Int), 256, fRaw 12 b, ()) := by
      intro i hi hc kn ke
      unfold p_ref13_Canon_l4_F
      dsimp only
      rw [if_pos (by omega), if_pos (by omega), if_pos (by omega), if_pos (by omega)]
      simp only [Int.toNat_natCast, hx i hi]
      rw [if_neg (by omega), wrap_i64 (by omega) (by omega)]
      rfl
    by_cases hall : ∀ i, i < 256 → num 12 b i < 3329
    · refine (iter_run (F := p_ref13_Canon_l4_F 300) (s := fun i => (256, 256, (i : Int), 256, fRaw 12 b, ())) (y := .inr ()) 256 ?_ ?_ 300 (by omega)).trans ?_
      · intro i hi kn
        exact go i hi (hall i hi) kn _
      · intro kn
        unfold p_ref13_Canon_l4_F
        dsimp only
        rw [if_neg (by omega)]
      · dsimp only
        congr 1
        refine (decide_eq_true ⟨by omega, ?_⟩).symm
        exact poly_congr fun i hi => by
          have := hall i hi
          have := num_b b i (by decide : (12 : Nat) ≤ 12)
          rw [hx i hi]
          omega
    · obtain ⟨m, hm, hbad, hmin⟩ : ∃ m, m < 256 ∧ ¬ num 12 b m < 3329 ∧ ∀ i, i < m → num 12 b i < 3329 := by
        have hex : ∃ m, m < 256 ∧ ¬ num 12 b m < 3329 := by
          by_cases h : ∃ m, m < 256 ∧ ¬ num 12 b m < 3329
          · exact h
          · exact absurd (fun i hi => Classical.byContradiction fun hc => h ⟨i, hi, hc⟩) hall
        have key : ∀ n : Nat, n ≤ 256 → (∀ i, i < n → num 12 b i < 3329) ∨ ∃ m, m < n ∧ ¬ num 12 b m < 3329 ∧ ∀ i, i < m → num 12 b i < 3329 := by
          intro n
          induction n with
          | zero => intro _; exact .inl fun i hi => absurd hi (by omega)
          | succ n ih =>
            intro hn
            rcases ih (by omega) with h | ⟨m, hm, h⟩
            · by_cases hc : num 12 b n < 3329
              · refine .inl fun i hi => ?_
                rcases Nat.lt_or_eq_of_le (Nat.le_of_lt_succ hi) with h2 | h2
                · exact h i h2
                · rw [h2]; exact hc
              · exact .inr ⟨n, by omega, hc, h⟩
            · exact .inr ⟨m, by omega, h⟩
        rcases key 256 (Nat.le_refl _) with h | h
        · exact absurd h hall
        · exact h
      refine (iter_run (F := p_ref13_Canon_l4_F 300) (s := fun i => (256, 256, (i : Int), 256, fRaw 12 b, ())) (y := .inl (false, ())) m ?_ ?_ 300 (by omega)).trans ?_
      · intro i hi kn
        exact go i (by omega) (hmin i hi) kn _
      · intro kn
        unfold p_ref13_Canon_l4_F
        dsimp only
        rw [if_pos (by omega), if_pos (by omega), if_pos (by omega), if_pos (by omega)]
        simp only [Int.toNat_natCast, hx m hm]
        rw [if_pos (by omega)]
      · dsimp only
        congr 1
        refine (decide_eq_false fun h => ?_).symm
        have h2 := congrArg (fun l : List Int => l.getD m 0) h.2
        have h3 : (fRed (fRaw 12 b)).getD m 0 = num 12 b m % 3329 := by rw [fRed, poly_getD hm, hx m hm]
        have h4 : num 12 b m = num 12 b m % 3329 := (hx m hm).symm.trans (h2.trans h3)
        omega
  · rw [if_pos hl]
    congr 1
    exact (decide_eq_false fun h => by omega).symm

theorem fEncode_wf (d : Int) (a : List Int) : (fEncode d a).1.length ≤ maxLen ∧ ∀ z ∈ (fEncode d a).1, 0 ≤ z ∧ z ≤ 255 := by
  unfold fEncode
  split
  · exact ⟨by simp, fun z hz => by simp at hz⟩
  · have := fBytes_u8 (e := encE d.toNat a) (n := 32 * d.toNat) fun t _ => encE_b _ a t
    exact ⟨by rw [this.1]; have : (32 : Nat) * 12 ≤ maxLen := by decide
              omega, this.2⟩
theorem at_Encode {d : Int} {a : List Int} (h : (-9223372036854775808 ≤ d ∧ d ≤ 9223372036854775807) ∧ u16s 256 a) : g_ring_Encode (d, a, ()) = some (fEncode d a) ∧ g_ref13_Encode (d, a, ()) = some (fEncode d a) :=
  ⟨Spec_at (ks := p_ring_Encode_ks) (rs := p_ring_Encode_rs) (x := (d, a, ())) (wf_ip.2 h) trivial, Spec_at (ks := p_ref13_Encode_ks) (rs := p_ref13_Encode_rs) (x := (d, a, ())) (wf_ip.2 h) trivial⟩
theorem at_Decode {d : Int} {b : List Int} (h : (-9223372036854775808 ≤ d ∧ d ≤ 9223372036854775807) ∧ b.length ≤ maxLen ∧ ∀ z ∈ b, 0 ≤ z ∧ z ≤ 255) : g_ring_Decode (d, b, ()) = some (fDecode d b) ∧ g_ref13_Decode (d, b, ()) = some (fDecode d b) :=
  ⟨Spec_at (ks := p_ring_Decode_ks) (rs := p_ring_Decode_rs) (x := (d, b, ())) (wf_ib.2 h) trivial, Spec_at (ks := p_ref13_Decode_ks) (rs := p_ref13_Decode_rs) (x := (d, b, ())) (wf_ib.2 h) trivial⟩
theorem at_Canon {b : List Int} (h : b.length ≤ maxLen ∧ ∀ z ∈ b, 0 ≤ z ∧ z ≤ 255) : g_ring_Canon (b, ()) = some (fCanon b) ∧ g_ref13_Canon (b, ()) = some (fCanon b) :=
  ⟨Spec_at (ks := p_ring_Canon_ks) (rs := p_ring_Canon_rs) (x := (b, ())) (wf_b1.2 h) trivial, Spec_at (ks := p_ref13_Canon_ks) (rs := p_ref13_Canon_rs) (x := (b, ())) (wf_b1.2 h) trivial⟩
theorem q_law13_RingCodes : ∀ x r, g_law13_RingCodes x = some r → ∃ N, p_law13_RingCodes N x = some r := by
  refine Spec_of (ks := p_law13_RingCodes_ks) (rs := p_law13_RingCodes_rs) fun x hw _ => ⟨0, ?_⟩
  obtain ⟨(d : Int), (a : List Int), (b : List Int), u⟩ := x
  have hd : -9223372036854775808 ≤ d ∧ d ≤ 9223372036854775807 := okInt_i64.1 hw.1
  have ha : u16s 256 a := wf_u16s.1 hw.2.1
  have hb := wf_bytes.1 hw.2.2.1
  obtain ⟨e1, e2⟩ := at_Encode ⟨hd, ha⟩
  obtain ⟨e3, e4⟩ := at_Decode ⟨hd, hb⟩
  obtain ⟨e5, e6⟩ := at_Canon hb
  have hw := fEncode_wf d a
  obtain ⟨e7, e8⟩ := at_Canon hw
  unfold p_law13_RingCodes
  simp only [e1, e2, e3, e4, e5, e6, e7, e8, at18, at_Equal hw.1 hw.2 hw.1 hw.2, Option.bind_some, if_true, decide_true]

theorem encV_b {d : Nat} {z : Int} (hz : 0 ≤ z) : 0 ≤ encV d z := by unfold encV; split <;> omega
theorem refV_eq {d : Nat} {z : Int} : encV d z % 2 ^ d = refV d z := by
  unfold encV refV
  split
  · rename_i h
    subst h
    omega
  · rfl
theorem fRaw_code {n : Nat} {a : List Int} (ha : u16s 256 a) : fRaw n (fBytes (encE n a) (32 * n)) = poly fun i => refV n (a.getD i 0) := by
  refine poly_congr fun i hi => ?_
  have hle := id_le (d := n) hi
  have hz := ha.at i
  rw [← refV_eq, ← sumB_bitI (encV_b hz.1)]
  refine sumB_congr fun k hk => ?_
  rw [bitAt_fBytes (fun t _ => encE_b n a t) (by omega), encE_at a hk]
theorem refV_self {n : Nat} {z : Int} (hn : n ≤ 12) (hz : 0 ≤ z) {k : Nat} (hk : k < n) : bitI (encV n (refV n z)) k = bitI (encV n z) k := by
  by_cases h : n = 12
  · subst h
    congr 1
    unfold encV refV
    simp only [if_true]
    omega
  · have : encV n (refV n z) = refV n z := by unfold encV; rw [if_neg h]
    rw [this, refV_bit hz hk]
theorem code_code {n : Nat} {a : List Int} (ha : u16s 256 a) (h0 : 1 ≤ n) (h1 : n ≤ 12) : fBytes (encE n (poly fun i => refV n (a.getD i 0))) (32 * n) = fBytes (encE n a) (32 * n) := by
  refine fBytes_congr fun t ht => ?_
  have hi : t / n < 256 := Nat.div_lt_of_lt_mul (by rw [Nat.mul_comm]; omega)
  have hk : t % n < n := Nat.mod_lt _ (by omega)
  unfold encE
  rw [poly_getD hi, refV_self h1 (ha.at _).1 hk]
theorem fDecode_code {n : Nat} {a : List Int} (ha : u16s 256 a) (h0 : 1 ≤ n) (h1 : n ≤ 12) : fDecode n (fBytes (encE n a) (32 * n)) = (poly fun i => refV n (a.getD i 0), 0) := by
  unfold fDecode
  rw [fBytes_len, if_neg (by omega)]
  by_cases h : n = 12
  · rw [if_pos (by omega)]
    subst h
    rw [fRaw_code ha]
    congr 1
    refine poly_congr fun i hi => ?_
    rw [poly_getD hi]
    unfold refV
    simp only [if_true]
    omega
  · rw [if_neg (by omega), Int.toNat_natCast, fRaw_code ha]
theorem fCanon_code {a : List Int} (ha : u16s 256 a) : fCanon (fBytes (encE 12 a) (32 * 12)) = true := by
  unfold fCanon
  refine decide_eq_true ⟨fBytes_len _ _, ?_⟩
  rw [fRaw_code ha]
  refine poly_congr fun i hi => ?_
  rw [poly_getD hi]
  unfold refV
  simp only [if_true]
  omega
theorem fEncode_in {n : Nat} (a : List Int) (h0 : 1 ≤ n) (h1 : n ≤ 12) : fEncode n a = (fBytes (encE n a) (32 * n), 0) := by
  unfold fEncode
  rw [if_neg (by omega), Int.toNat_natCast]
theorem q_law13_RingBack : ∀ x r, g_law13_RingBack x = some r → ∃ N, p_law13_RingBack N x = some r := by
  refine Spec_of (ks := p_law13_RingBack_ks) (rs := p_law13_RingBack_rs) fun x hw _ => ⟨300, ?_⟩
  obtain ⟨(d : Int), (a : List Int), u⟩ := x
  obtain ⟨hd, ha⟩ := wf_ip.1 hw
  obtain ⟨e1, _⟩ := at_Encode ⟨hd, ha⟩
  unfold p_law13_RingBack
  simp only [at18, at37 ha, at24 ha, at26 (red_fNtt a).u16, at26 ha, at24 (red_fInv a).u16, fInv_fNtt, fNtt_fInv, e1, Option.bind_some, not_true_eq_false, ne_eq, if_false]
  by_cases h : d < 1 ∨ 12 < d
  · have : fEncode d a = ([], 1) := by unfold fEncode; rw [if_pos h]
    rw [this]
    simp only [List.length_nil]
    rw [if_pos (by omega)]
    rcases h with h | h
    · rw [if_pos h]; rfl
    · rw [if_neg (by omega), if_pos h]; rfl
  · obtain ⟨n, rfl⟩ : ∃ n : Nat, d = n := ⟨d.toNat, by omega⟩
    have h0 : 1 ≤ n := by omega
    have h1 : n ≤ 12 := by omega
    have hR : u16s 256 (poly fun i => refV n (a.getD i 0)) := poly_u16 fun i _ => by have := refV_b (z := a.getD i 0) h1; omega
    have hB := fEncode_wf (n : Int) a
    rw [fEncode_in a h0 h1] at hB ⊢
    obtain ⟨d1, _⟩ := at_Decode ⟨hd, hB⟩
    obtain ⟨e2, _⟩ := at_Encode ⟨hd, hR⟩
    rw [fDecode_code ha h0 h1] at d1
    rw [fEncode_in _ h0 h1, code_code ha h0 h1] at e2
    simp only [d1, e2, at_Equal hB.1 hB.2 hB.1 hB.2, Option.bind_some, not_true_eq_false, if_false, decide_true, fBytes_len]
    rw [wrap_i64 (by omega) (by omega), if_neg (by omega)]
    have hp : (2 : Nat) ^ n < 2 ^ 16 := Nat.pow_lt_pow_right (by decide) (by omega)
    have hsh : ishl .u16 1 (n : Int) = ((2 ^ n : Nat) : Int) := (ishl_nat (k := .u16) rfl (m := 1) (s := n) (show n ≤ 16 by omega) (by rw [Nat.one_mul]; exact hp)).trans (by rw [Nat.one_mul])
    have hp0 : 0 < (2 : Nat) ^ n := Nat.pos_of_ne_zero (by simp)
    refine (iter_run (F := p_law13_RingBack_l14_F 300) (s := fun i => ((n : Int), 32 * n, (i : Int), a, fRed a, 32 * n, fBytes (encE n a) (32 * n), poly (fun i => refV n (a.getD i 0)), ()))
      (y := .inr ((n : Int), 32 * n, 32 * n, fBytes (encE n a) (32 * n), ())) 256 ?_ ?_ 300 (by omega)).trans ?_
    · intro i hi kn
      have hz := ha.at i
      have v1 : (poly fun i => refV n (a.getD i 0)).getD i 0 = refV n (a.getD i 0) := poly_getD hi
      have v2 : (fRed a).getD i 0 = a.getD i 0 % 3329 := poly_getD hi
      unfold p_law13_RingBack_l14_F
      dsimp only
      rw [if_pos (by omega), if_pos (by omega), if_pos (by omega), if_pos (by omega), wrap_u64 (by omega) (by omega), if_neg (by omega), hsh, if_neg (by omega)]
      simp only [Int.toNat_natCast, v1, v2]
      simp (disch := omega) only [wrap_i64, if_pos hi, if_pos (show (0 : Int) ≤ i by omega), if_pos (show (i : Int) < 256 by omega)]
      by_cases h12 : n = 12
      · have : refV n (a.getD i 0) = a.getD i 0 % 3329 := by unfold refV; rw [if_pos h12]
        rw [if_pos (by omega), if_neg fun h => h this, Int.natCast_add]
        rfl
      · have : refV n (a.getD i 0) = (a.getD i 0).tmod ((2 ^ n : Nat) : Int) := by unfold refV; rw [if_neg h12, tmod_pos hz.1]; simp
        rw [if_neg (by omega), if_neg fun h => h this, Int.natCast_add]
        rfl
    · intro kn
      unfold p_law13_RingBack_l14_F
      dsimp only
      rw [if_neg (by omega)]
    · dsimp only
      by_cases h12 : n = 12
      · rw [if_neg (by omega)]
        obtain ⟨c1, _⟩ := at_Canon hB
        subst h12
        rw [c1]
        simp only [Option.bind_some]
        rw [fCanon_code ha]
        rfl
      · rw [if_pos (by omega)]
end Go.Ax.TryP
/-! Printed by program (wires.py): the functions keep their signatures. -/
namespace Go.Ax.TryP
theorem s_ring_Encode : SigOk Go.Proofs.Try.prog 30 ⟨[.int .i64, .xs (.int .u16) 256], [.sl (.int .u8), .int .i64], g_ring_Encode⟩ := p_ring_Encode_ok s_ring_Reduce q_ring_Encode
theorem s_ref13_Encode : SigOk Go.Proofs.Try.prog 31 ⟨[.int .i64, .xs (.int .u16) 256], [.sl (.int .u8), .int .i64], g_ref13_Encode⟩ := p_ref13_Encode_ok s_ref13_width s_ref01_FromBits q_ref13_Encode
theorem s_ring_raw : SigOk Go.Proofs.Try.prog 53 ⟨[.int .i64, .sl (.int .u8)], [.xs (.int .u16) 256], g_ring_raw⟩ := p_ring_raw_ok q_ring_raw
theorem s_ring_Decode : SigOk Go.Proofs.Try.prog 32 ⟨[.int .i64, .sl (.int .u8)], [.xs (.int .u16) 256, .int .i64], g_ring_Decode⟩ := p_ring_Decode_ok s_ring_raw s_ring_Reduce q_ring_Decode
theorem s_ref13_numbers : SigOk Go.Proofs.Try.prog 54 ⟨[.int .i64, .sl (.int .u8)], [.sl (.int .i64)], g_ref13_numbers⟩ := p_ref13_numbers_ok s_ref01_Bits q_ref13_numbers
theorem s_ref13_Decode : SigOk Go.Proofs.Try.prog 33 ⟨[.int .i64, .sl (.int .u8)], [.xs (.int .u16) 256, .int .i64], g_ref13_Decode⟩ := p_ref13_Decode_ok s_ref13_numbers q_ref13_Decode
theorem s_ring_Canon : SigOk Go.Proofs.Try.prog 35 ⟨[.sl (.int .u8)], [.bool], g_ring_Canon⟩ := p_ring_Canon_ok s_ring_raw s_ring_Reduce q_ring_Canon
theorem s_ref13_Canon : SigOk Go.Proofs.Try.prog 36 ⟨[.sl (.int .u8)], [.bool], g_ref13_Canon⟩ := p_ref13_Canon_ok s_ref13_numbers q_ref13_Canon
theorem s_law13_RingCodes : SigOk Go.Proofs.Try.prog 9 ⟨[.int .i64, .xs (.int .u16) 256, .sl (.int .u8)], [.bool], g_law13_RingCodes⟩ := p_law13_RingCodes_ok s_ring_Encode s_ref13_Encode s_ring_Decode s_ref13_Decode s_law13_live s_ref01_Equal s_ring_Canon s_ref13_Canon q_law13_RingCodes
theorem s_law13_RingBack : SigOk Go.Proofs.Try.prog 12 ⟨[.int .i64, .xs (.int .u16) 256], [.bool], g_law13_RingBack⟩ := p_law13_RingBack_ok s_law13_live s_ring_Reduce s_ring_Ntt s_ring_Inv s_ring_Encode s_ring_Decode s_ref01_Equal s_ring_Canon q_law13_RingBack
end Go.Ax.TryP
