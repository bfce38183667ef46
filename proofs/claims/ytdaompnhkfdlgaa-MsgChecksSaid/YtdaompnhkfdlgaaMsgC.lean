/- A part of the proof: MsgS3, MsgP3, MsgQ11, MsgQ12, MsgQ13, MsgW3. -/
import Derived.Test.YtdaompnhkfdlgaaMsgB
/-! ### Messages: the law of puts -/
namespace Go.Ax.TryP
noncomputable def g_law21_MsgPuts : Ms × Unit → Option Bool := Spec (ks := [.cat msL]) (rs := [.bool]) (fun _ => True) fun _ => true
noncomputable def g_law21_MsgChecks : Ms × Ms × Unit → Option Bool := Spec (ks := [.cat msL, .cat msL]) (rs := [.bool]) (fun _ => True) fun _ => true
end Go.Ax.TryP
/-! Printed by program (gen.py). -/
set_option linter.unusedVariables false
namespace Go.Ax.TryP
/-! livery/liveryref21.Check -/
noncomputable def p_ref21_Check_E : AE := AE.ofQ [(3, ty3), (25, ty25), (26, ty26), (28, ty28), (29, ty29), (31, ty31)] [(15, ⟨[.int .i64], [.str], g_ref21_Name⟩), (38, ⟨[.int .i64, .int .i32], [.bool], g_ref21_has⟩), (49, ⟨[.cat [.int .u64, .int .u64]], [.bool], g_ref19_One⟩), (50, ⟨[.bool, .sl (.int .u8), .int .i64], [.bool], g_ref21_so⟩), (51, ⟨[.int .i64, .sl (.int .u8)], [.bool], g_ref21_marked⟩)] [(28, .u64, 2)]
noncomputable def p_ref21_Check_H : Hints := [(3000000, [2]), (8000006, [1, 3]), (8000008, [1, 3]), (8000010, [1, 3]), (8000012, [1, 3]), (8000013, [1, 3, 4]), (8000015, [1, 3, 4]), (8000017, [1, 3])]
noncomputable def p_ref21_Check_c : Code := (Go.Proofs.Try.f26).body.getD .skip
noncomputable def p_ref21_Check_s17_S : Shape where
  h := { tmps := [.any, .sc (.ptr 0 0 false), .any, .sc (.int .i64), .any, .any, .any, .any, .any, .any, .any, .any, .any, .any, .any, .any, .any, .any, .any, .any, .any, .any, .any, .any, .any, .any, .any, .any, .any, .any, .any, .any, .any, .any, .any, .any, .any, .any, .any, .any, .any, .any, .any, .any, .any, .any, .any, .any, .any, .any, .any, .any, .any, .any, .any, .any, .any, .any, .any, .any, .any, .any, .any, .any, .any, .any, .any, .any, .any, .any, .any, .any, .any, .any, .any, .any, .any, .any, .any, .any, .any, .any, .any, .any, .any, .any, .any, .any, .any, .any, .any, .any, .any, .any, .any, .any, .any, .any, .any, .any, .any, .any, .any, .any, .any, .any, .any, .any, .any, .any, .any, .any, .any, .any, .any, .any, .any, .any, .any, .any, .any, .any, .any, .any, .any, .any, .any, .any, .any, .any, .any, .any, .any, .any, .any, .any, .any, .any, .any, .any, .any, .any, .any, .any, .any], mem := [.live [.one (.int .i64), .one (.int .i64), .one (.int .i64), .one (.int .u32), .one (.int .u32), .one (.int .u64), .one (.int .u64), .one (.int .i64), .one (.int .i64), .one (.fr (.int .u8)), .one (.fr (.int .u8)), .one (.fr (.int .u8))] (.own)] }
  ks := [.int, .int, .int, .int, .int, .int, .int, .int, .int, .int, .xs, .xs, .xs]
  st := fun x => { tmps := [.one .any, .one (.sc (.ptr 0 0 none)), .one .any, .one (.sc (.int .i64 x.1)), .one .any, .one .any, .one .any, .one .any, .one .any, .one .any, .one .any, .one .any, .one .any, .one .any, .one .any, .one .any, .one .any, .one .any, .one .any, .one .any, .one .any, .one .any, .one .any, .one .any, .one .any, .one .any, .one .any, .one .any, .one .any, .one .any, .one .any, .one .any, .one .any, .one .any, .one .any, .one .any, .one .any, .one .any, .one .any, .one .any, .one .any, .one .any, .one .any, .one .any, .one .any, .one .any, .one .any, .one .any, .one .any, .one .any, .one .any, .one .any, .one .any, .one .any, .one .any, .one .any, .one .any, .one .any, .one .any, .one .any, .one .any, .one .any, .one .any, .one .any, .one .any, .one .any, .one .any, .one .any, .one .any, .one .any, .one .any, .one .any, .one .any, .one .any, .one .any, .one .any, .one .any, .one .any, .one .any, .one .any, .one .any, .one .any, .one .any, .one .any, .one .any, .one .any, .one .any, .one .any, .one .any, .one .any, .one .any, .one .any, .one .any, .one .any, .one .any, .one .any, .one .any, .one .any, .one .any, .one .any, .one .any, .one .any, .one .any, .one .any, .one .any, .one .any, .one .any, .one .any, .one .any, .one .any, .one .any, .one .any, .one .any, .one .any, .one .any, .one .any, .one .any, .one .any, .one .any, .one .any, .one .any, .one .any, .one .any, .one .any, .one .any, .one .any, .one .any, .one .any, .one .any, .one .any, .one .any, .one .any, .one .any, .one .any, .one .any, .one .any, .one .any, .one .any, .one .any, .one .any, .one .any, .one .any, .one .any, .one .any, .one .any], mem := [.live { segs := [.one (.int .i64 x.2.1), .one (.int .i64 x.2.2.1), .one (.int .i64 x.2.2.2.1), .one (.int .u32 x.2.2.2.2.1), .one (.int .u32 x.2.2.2.2.2.1), .one (.int .u64 x.2.2.2.2.2.2.1), .one (.int .u64 x.2.2.2.2.2.2.2.1), .one (.int .i64 x.2.2.2.2.2.2.2.2.1), .one (.int .i64 x.2.2.2.2.2.2.2.2.2.1), .one (.fr (.xs (.int .u8) x.2.2.2.2.2.2.2.2.2.2.1)), .one (.fr (.xs (.int .u8) x.2.2.2.2.2.2.2.2.2.2.2.1)), .one (.fr (.xs (.int .u8) x.2.2.2.2.2.2.2.2.2.2.2.2.1))], own := .own }] }
noncomputable def p_ref21_Check_s17_F (N : Nat) (β : Type) (x : (Int × Int × Int × Int × Int × Int × Int × Int × Int × Int × List Int × List Int × List Int × Unit)) (ke : ((Int × Unit)) → Option β) : Option β :=
  if (x.1 = (4:Int)) then
    (g_ref21_marked (x.2.2.2.2.2.2.2.2.2.1, x.2.2.2.2.2.2.2.2.2.2.1, ())).bind fun r16 => (
    if (¬ (r16 = true)) then
      ke ((210:Int), ())
    else
      ke ((0:Int), ()))
  else
    ke ((0:Int), ())
noncomputable def p_ref21_Check_s17_go : Go' ((Int × Unit)) := fun y K => K .ret { tmps := [.one .any, .one .any, .one (.sc (.int .i64 y.1)), .one .any, .one .any, .one .any, .one .any, .one .any, .one .any, .one .any, .one .any, .one .any, .one .any, .one .any, .one .any, .one .any, .one .any, .one .any, .one .any, .one .any, .one .any, .one .any, .one .any, .one .any, .one .any, .one .any, .one .any, .one .any, .one .any, .one .any, .one .any, .one .any, .one .any, .one .any, .one .any, .one .any, .one .any, .one .any, .one .any, .one .any, .one .any, .one .any, .one .any, .one .any, .one .any, .one .any, .one .any, .one .any, .one .any, .one .any, .one .any, .one .any, .one .any, .one .any, .one .any, .one .any, .one .any, .one .any, .one .any, .one .any, .one .any, .one .any, .one .any, .one .any, .one .any, .one .any, .one .any, .one .any, .one .any, .one .any, .one .any, .one .any, .one .any, .one .any, .one .any, .one .any, .one .any, .one .any, .one .any, .one .any, .one .any, .one .any, .one .any, .one .any, .one .any, .one .any, .one .any, .one .any, .one .any, .one .any, .one .any, .one .any, .one .any, .one .any, .one .any, .one .any, .one .any, .one .any, .one .any, .one .any, .one .any, .one .any, .one .any, .one .any, .one .any, .one .any, .one .any, .one .any, .one .any, .one .any, .one .any, .one .any, .one .any, .one .any, .one .any, .one .any, .one .any, .one .any, .one .any, .one .any, .one .any, .one .any, .one .any, .one .any, .one .any, .one .any, .one .any, .one .any, .one .any, .one .any, .one .any, .one .any, .one .any, .one .any, .one .any, .one .any, .one .any, .one .any, .one .any, .one .any, .one .any, .one .any, .one .any, .one .any, .one .any], mem := [] }
noncomputable def p_ref21_Check_s17_L (N : Nat) : LT := upd (LT.nil) 8000017 (condE p_ref21_Check_s17_S (p_ref21_Check_s17_F N) p_ref21_Check_s17_go)
theorem p_ref21_Check_s17_ok (N : Nat) : OkAll p_ref21_Check_E p_ref21_Check_H N (p_ref21_Check_s17_L N) (subs p_ref21_Check_c) :=
  addSeq (k := 17) (a := theFst 8000017 p_ref21_Check_c) (b := theRest 8000017 p_ref21_Check_c) (OkAll.nil) (by kernel_rfl) (fun x => by kernel_rfl) (fun β x K => by kernel_rfl)
noncomputable def p_ref21_Check_s15_S : Shape where
  h := { tmps := [.any, .sc (.ptr 0 0 false), .any, .sc (.int .i64), .sc (.int .i64), .any, .any, .any, .any, .any, .any, .any, .any, .any, .any, .any, .any, .any, .any, .any, .any, .any, .any, .any, .any, .any, .any, .any, .any, .any, .any, .any, .any, .any, .any, .any, .any, .any, .any, .any, .any, .any, .any, .any, .any, .any, .any, .any, .any, .any, .any, .any, .any, .any, .any, .any, .any, .any, .any, .any, .any, .any, .any, .any, .any, .any, .any, .any, .any, .any, .any, .any, .any, .any, .any, .any, .any, .any, .any, .any, .any, .any, .any, .any, .any, .any, .any, .any, .any, .any, .any, .any, .any, .any, .any, .any, .any, .any, .any, .any, .any, .any, .any, .any, .any, .any, .any, .any, .any, .any, .any, .any, .any, .any, .any, .any, .any, .any, .any, .any, .any, .any, .any, .any, .any, .any, .any, .any, .any, .any, .any, .any, .any, .any, .any, .any, .any, .any, .any, .any, .any, .any, .any, .any, .any], mem := [.live [.one (.int .i64), .one (.int .i64), .one (.int .i64), .one (.int .u32), .one (.int .u32), .one (.int .u64), .one (.int .u64), .one (.int .i64), .one (.int .i64), .one (.fr (.int .u8)), .one (.fr (.int .u8)), .one (.fr (.int .u8))] (.own)] }
  ks := [.int, .int, .int, .int, .int, .int, .int, .int, .int, .int, .int, .xs, .xs, .xs]
  st := fun x => { tmps := [.one .any, .one (.sc (.ptr 0 0 none)), .one .any, .one (.sc (.int .i64 x.1)), .one (.sc (.int .i64 x.2.1)), .one .any, .one .any, .one .any, .one .any, .one .any, .one .any, .one .any, .one .any, .one .any, .one .any, .one .any, .one .any, .one .any, .one .any, .one .any, .one .any, .one .any, .one .any, .one .any, .one .any, .one .any, .one .any, .one .any, .one .any, .one .any, .one .any, .one .any, .one .any, .one .any, .one .any, .one .any, .one .any, .one .any, .one .any, .one .any, .one .any, .one .any, .one .any, .one .any, .one .any, .one .any, .one .any, .one .any, .one .any, .one .any, .one .any, .one .any, .one .any, .one .any, .one .any, .one .any, .one .any, .one .any, .one .any, .one .any, .one .any, .one .any, .one .any, .one .any, .one .any, .one .any, .one .any, .one .any, .one .any, .one .any, .one .any, .one .any, .one .any, .one .any, .one .any, .one .any, .one .any, .one .any, .one .any, .one .any, .one .any, .one .any, .one .any, .one .any, .one .any, .one .any, .one .any, .one .any, .one .any, .one .any, .one .any, .one .any, .one .any, .one .any, .one .any, .one .any, .one .any, .one .any, .one .any, .one .any, .one .any, .one .any, .one .any, .one .any, .one .any, .one .any, .one .any, .one .any, .one .any, .one .any, .one .any, .one .any, .one .any, .one .any, .one .any, .one .any, .one .any, .one .any, .one .any, .one .any, .one .any, .one .any, .one .any, .one .any, .one .any, .one .any, .one .any, .one .any, .one .any, .one .any, .one .any, .one .any, .one .any, .one .any, .one .any, .one .any, .one .any, .one .any, .one .any, .one .any, .one .any, .one .any, .one .any, .one .any, .one .any], mem := [.live { segs := [.one (.int .i64 x.2.2.1), .one (.int .i64 x.2.2.2.1), .one (.int .i64 x.2.2.2.2.1), .one (.int .u32 x.2.2.2.2.2.1), .one (.int .u32 x.2.2.2.2.2.2.1), .one (.int .u64 x.2.2.2.2.2.2.2.1), .one (.int .u64 x.2.2.2.2.2.2.2.2.1), .one (.int .i64 x.2.2.2.2.2.2.2.2.2.1), .one (.int .i64 x.2.2.2.2.2.2.2.2.2.2.1), .one (.fr (.xs (.int .u8) x.2.2.2.2.2.2.2.2.2.2.2.1)), .one (.fr (.xs (.int .u8) x.2.2.2.2.2.2.2.2.2.2.2.2.1)), .one (.fr (.xs (.int .u8) x.2.2.2.2.2.2.2.2.2.2.2.2.2.1))], own := .own }] }
noncomputable def p_ref21_Check_s15_F (N : Nat) (β : Type) (x : (Int × Int × Int × Int × Int × Int × Int × Int × Int × Int × Int × List Int × List Int × List Int × Unit)) (ke : ((Int × Unit)) → Option β) : Option β :=
  (g_ref21_has (x.1, (100:Int), ())).bind fun r10 => (
  (g_ref21_so ((decide (r10 = true)), x.2.2.2.2.2.2.2.2.2.2.2.1, x.2.1, ())).bind fun r11 => (
  if (¬ (r11 = true)) then
    ke ((210:Int), ())
  else
    (g_ref21_has (x.1, (99:Int), ())).bind fun r12 => (
    (g_ref21_so ((decide (r12 = true)), x.2.2.2.2.2.2.2.2.2.2.2.2.1, (6446:Int), ())).bind fun r13 => (
    if (¬ (r13 = true)) then
      ke ((210:Int), ())
    else
      (g_ref21_has (x.1, (115:Int), ())).bind fun r14 => (
      (g_ref21_so ((decide (r14 = true)), x.2.2.2.2.2.2.2.2.2.2.2.2.2.1, (3309:Int), ())).bind fun r15 => (
      if (¬ (r15 = true)) then
        ke ((210:Int), ())
      else
        p_ref21_Check_s17_F N _ (x.1, x.2.2.1, x.2.2.2.1, x.2.2.2.2.1, x.2.2.2.2.2.1, x.2.2.2.2.2.2.1, x.2.2.2.2.2.2.2.1, x.2.2.2.2.2.2.2.2.1, x.2.2.2.2.2.2.2.2.2.1, x.2.2.2.2.2.2.2.2.2.2.1, x.2.2.2.2.2.2.2.2.2.2.2.1, x.2.2.2.2.2.2.2.2.2.2.2.2.1, x.2.2.2.2.2.2.2.2.2.2.2.2.2.1, ()) fun y17 => (
        ke (y17.1, ()))))))))
noncomputable def p_ref21_Check_s15_go : Go' ((Int × Unit)) := fun y K => K .ret { tmps := [.one .any, .one .any, .one (.sc (.int .i64 y.1)), .one .any, .one .any, .one .any, .one .any, .one .any, .one .any, .one .any, .one .any, .one .any, .one .any, .one .any, .one .any, .one .any, .one .any, .one .any, .one .any, .one .any, .one .any, .one .any, .one .any, .one .any, .one .any, .one .any, .one .any, .one .any, .one .any, .one .any, .one .any, .one .any, .one .any, .one .any, .one .any, .one .any, .one .any, .one .any, .one .any, .one .any, .one .any, .one .any, .one .any, .one .any, .one .any, .one .any, .one .any, .one .any, .one .any, .one .any, .one .any, .one .any, .one .any, .one .any, .one .any, .one .any, .one .any, .one .any, .one .any, .one .any, .one .any, .one .any, .one .any, .one .any, .one .any, .one .any, .one .any, .one .any, .one .any, .one .any, .one .any, .one .any, .one .any, .one .any, .one .any, .one .any, .one .any, .one .any, .one .any, .one .any, .one .any, .one .any, .one .any, .one .any, .one .any, .one .any, .one .any, .one .any, .one .any, .one .any, .one .any, .one .any, .one .any, .one .any, .one .any, .one .any, .one .any, .one .any, .one .any, .one .any, .one .any, .one .any, .one .any, .one .any, .one .any, .one .any, .one .any, .one .any, .one .any, .one .any, .one .any, .one .any, .one .any, .one .any, .one .any, .one .any, .one .any, .one .any, .one .any, .one .any, .one .any, .one .any, .one .any, .one .any, .one .any, .one .any, .one .any, .one .any, .one .any, .one .any, .one .any, .one .any, .one .any, .one .any, .one .any, .one .any, .one .any, .one .any, .one .any, .one .any, .one .any, .one .any, .one .any, .one .any, .one .any], mem := [] }
noncomputable def p_ref21_Check_s15_L (N : Nat) : LT := upd (p_ref21_Check_s17_L N) 8000015 (condE p_ref21_Check_s15_S (p_ref21_Check_s15_F N) p_ref21_Check_s15_go)
theorem p_ref21_Check_s15_ok (N : Nat) : OkAll p_ref21_Check_E p_ref21_Check_H N (p_ref21_Check_s15_L N) (subs p_ref21_Check_c) :=
  addSeq (k := 15) (a := theFst 8000015 p_ref21_Check_c) (b := theRest 8000015 p_ref21_Check_c) (p_ref21_Check_s17_ok N) (by kernel_rfl) (fun x => by kernel_rfl) (fun β x K => by kernel_rfl)
noncomputable def p_ref21_Check_s13_S : Shape where
  h := { tmps := [.any, .sc (.ptr 0 0 false), .any, .sc (.int .i64), .sc (.int .i64), .any, .any, .any, .any, .any, .any, .any, .any, .any, .any, .any, .any, .any, .any, .any, .any, .any, .any, .any, .any, .any, .any, .any, .any, .any, .any, .any, .any, .any, .any, .any, .any, .any, .any, .any, .any, .any, .any, .any, .any, .any, .any, .any, .any, .any, .any, .any, .any, .any, .any, .any, .any, .any, .any, .any, .any, .any, .any, .any, .any, .any, .any, .any, .any, .any, .any, .any, .any, .any, .any, .any, .any, .any, .any, .any, .any, .any, .any, .any, .any, .any, .any, .any, .any, .any, .any, .any, .any, .any, .any, .any, .any, .any, .any, .any, .any, .any, .any, .any, .any, .any, .any, .any, .any, .any, .any, .any, .any, .any, .any, .any, .any, .any, .any, .any, .any, .any, .any, .any, .any, .any, .any, .any, .any, .any, .any, .any, .any, .any, .any, .any, .any, .any, .any, .any, .any, .any, .any, .any, .any], mem := [.live [.one (.int .i64), .one (.int .i64), .one (.int .i64), .one (.int .u32), .one (.int .u32), .one (.int .u64), .one (.int .u64), .one (.int .i64), .one (.int .i64), .one (.fr (.int .u8)), .one (.fr (.int .u8)), .one (.fr (.int .u8))] (.own)] }
  ks := [.int, .int, .int, .int, .int, .int, .int, .int, .int, .int, .int, .xs, .xs, .xs]
  st := fun x => { tmps := [.one .any, .one (.sc (.ptr 0 0 none)), .one .any, .one (.sc (.int .i64 x.1)), .one (.sc (.int .i64 x.2.1)), .one .any, .one .any, .one .any, .one .any, .one .any, .one .any, .one .any, .one .any, .one .any, .one .any, .one .any, .one .any, .one .any, .one .any, .one .any, .one .any, .one .any, .one .any, .one .any, .one .any, .one .any, .one .any, .one .any, .one .any, .one .any, .one .any, .one .any, .one .any, .one .any, .one .any, .one .any, .one .any, .one .any, .one .any, .one .any, .one .any, .one .any, .one .any, .one .any, .one .any, .one .any, .one .any, .one .any, .one .any, .one .any, .one .any, .one .any, .one .any, .one .any, .one .any, .one .any, .one .any, .one .any, .one .any, .one .any, .one .any, .one .any, .one .any, .one .any, .one .any, .one .any, .one .any, .one .any, .one .any, .one .any, .one .any, .one .any, .one .any, .one .any, .one .any, .one .any, .one .any, .one .any, .one .any, .one .any, .one .any, .one .any, .one .any, .one .any, .one .any, .one .any, .one .any, .one .any, .one .any, .one .any, .one .any, .one .any, .one .any, .one .any, .one .any, .one .any, .one .any, .one .any, .one .any, .one .any, .one .any, .one .any, .one .any, .one .any, .one .any, .one .any, .one .any, .one .any, .one .any, .one .any, .one .any, .one .any, .one .any, .one .any, .one .any, .one .any, .one .any, .one .any, .one .any, .one .any, .one .any, .one .any, .one .any, .one .any, .one .any, .one .any, .one .any, .one .any, .one .any, .one .any, .one .any, .one .any, .one .any, .one .any, .one .any, .one .any, .one .any, .one .any, .one .any, .one .any, .one .any, .one .any, .one .any, .one .any, .one .any], mem := [.live { segs := [.one (.int .i64 x.2.2.1), .one (.int .i64 x.2.2.2.1), .one (.int .i64 x.2.2.2.2.1), .one (.int .u32 x.2.2.2.2.2.1), .one (.int .u32 x.2.2.2.2.2.2.1), .one (.int .u64 x.2.2.2.2.2.2.2.1), .one (.int .u64 x.2.2.2.2.2.2.2.2.1), .one (.int .i64 x.2.2.2.2.2.2.2.2.2.1), .one (.int .i64 x.2.2.2.2.2.2.2.2.2.2.1), .one (.fr (.xs (.int .u8) x.2.2.2.2.2.2.2.2.2.2.2.1)), .one (.fr (.xs (.int .u8) x.2.2.2.2.2.2.2.2.2.2.2.2.1)), .one (.fr (.xs (.int .u8) x.2.2.2.2.2.2.2.2.2.2.2.2.2.1))], own := .own }] }
noncomputable def p_ref21_Check_s13_F (N : Nat) (β : Type) (x : (Int × Int × Int × Int × Int × Int × Int × Int × Int × Int × Int × List Int × List Int × List Int × Unit)) (ke : ((Int × Unit)) → Option β) : Option β :=
  if (x.1 = (1:Int)) then
    p_ref21_Check_s15_F N _ (x.1, (68:Int), x.2.2.1, x.2.2.2.1, x.2.2.2.2.1, x.2.2.2.2.2.1, x.2.2.2.2.2.2.1, x.2.2.2.2.2.2.2.1, x.2.2.2.2.2.2.2.2.1, x.2.2.2.2.2.2.2.2.2.1, x.2.2.2.2.2.2.2.2.2.2.1, x.2.2.2.2.2.2.2.2.2.2.2.1, x.2.2.2.2.2.2.2.2.2.2.2.2.1, x.2.2.2.2.2.2.2.2.2.2.2.2.2.1, ()) fun y18 => (
    ke (y18.1, ()))
  else
    p_ref21_Check_s15_F N _ (x.1, x.2.1, x.2.2.1, x.2.2.2.1, x.2.2.2.2.1, x.2.2.2.2.2.1, x.2.2.2.2.2.2.1, x.2.2.2.2.2.2.2.1, x.2.2.2.2.2.2.2.2.1, x.2.2.2.2.2.2.2.2.2.1, x.2.2.2.2.2.2.2.2.2.2.1, x.2.2.2.2.2.2.2.2.2.2.2.1, x.2.2.2.2.2.2.2.2.2.2.2.2.1, x.2.2.2.2.2.2.2.2.2.2.2.2.2.1, ()) fun y19 => (
    ke (y19.1, ()))
noncomputable def p_ref21_Check_s13_go : Go' ((Int × Unit)) := fun y K => K .ret { tmps := [.one .any, .one .any, .one (.sc (.int .i64 y.1)), .one .any, .one .any, .one .any, .one .any, .one .any, .one .any, .one .any, .one .any, .one .any, .one .any, .one .any, .one .any, .one .any, .one .any, .one .any, .one .any, .one .any, .one .any, .one .any, .one .any, .one .any, .one .any, .one .any, .one .any, .one .any, .one .any, .one .any, .one .any, .one .any, .one .any, .one .any, .one .any, .one .any, .one .any, .one .any, .one .any, .one .any, .one .any, .one .any, .one .any, .one .any, .one .any, .one .any, .one .any, .one .any, .one .any, .one .any, .one .any, .one .any, .one .any, .one .any, .one .any, .one .any, .one .any, .one .any, .one .any, .one .any, .one .any, .one .any, .one .any, .one .any, .one .any, .one .any, .one .any, .one .any, .one .any, .one .any, .one .any, .one .any, .one .any, .one .any, .one .any, .one .any, .one .any, .one .any, .one .any, .one .any, .one .any, .one .any, .one .any, .one .any, .one .any, .one .any, .one .any, .one .any, .one .any, .one .any, .one .any, .one .any, .one .any, .one .any, .one .any, .one .any, .one .any, .one .any, .one .any, .one .any, .one .any, .one .any, .one .any, .one .any, .one .any, .one .any, .one .any, .one .any, .one .any, .one .any, .one .any, .one .any, .one .any, .one .any, .one .any, .one .any, .one .any, .one .any, .one .any, .one .any, .one .any, .one .any, .one .any, .one .any, .one .any, .one .any, .one .any, .one .any, .one .any, .one .any, .one .any, .one .any, .one .any, .one .any, .one .any, .one .any, .one .any, .one .any, .one .any, .one .any, .one .any, .one .any, .one .any, .one .any, .one .any], mem := [] }
noncomputable def p_ref21_Check_s13_L (N : Nat) : LT := upd (p_ref21_Check_s15_L N) 8000013 (condE p_ref21_Check_s13_S (p_ref21_Check_s13_F N) p_ref21_Check_s13_go)
theorem p_ref21_Check_s13_ok (N : Nat) : OkAll p_ref21_Check_E p_ref21_Check_H N (p_ref21_Check_s13_L N) (subs p_ref21_Check_c) :=
  addSeq (k := 13) (a := theFst 8000013 p_ref21_Check_c) (b := theRest 8000013 p_ref21_Check_c) (p_ref21_Check_s15_ok N) (by kernel_rfl) (fun x => by kernel_rfl) (fun β x K => by kernel_rfl)
noncomputable def p_ref21_Check_s12_S : Shape where
  h := { tmps := [.any, .sc (.ptr 0 0 false), .any, .sc (.int .i64), .any, .any, .any, .any, .any, .any, .any, .any, .any, .any, .any, .any, .any, .any, .any, .any, .any, .any, .any, .any, .any, .any, .any, .any, .any, .any, .any, .any, .any, .any, .any, .any, .any, .any, .any, .any, .any, .any, .any, .any, .any, .any, .any, .any, .any, .any, .any, .any, .any, .any, .any, .any, .any, .any, .any, .any, .any, .any, .any, .any, .any, .any, .any, .any, .any, .any, .any, .any, .any, .any, .any, .any, .any, .any, .any, .any, .any, .any, .any, .any, .any, .any, .any, .any, .any, .any, .any, .any, .any, .any, .any, .any, .any, .any, .any, .any, .any, .any, .any, .any, .any, .any, .any, .any, .any, .any, .any, .any, .any, .any, .any, .any, .any, .any, .any, .any, .any, .any, .any, .any, .any, .any, .any, .any, .any, .any, .any, .any, .any, .any, .any, .any, .any, .any, .any, .any, .any, .any, .any, .any, .any], mem := [.live [.one (.int .i64), .one (.int .i64), .one (.int .i64), .one (.int .u32), .one (.int .u32), .one (.int .u64), .one (.int .u64), .one (.int .i64), .one (.int .i64), .one (.fr (.int .u8)), .one (.fr (.int .u8)), .one (.fr (.int .u8))] (.own)] }
  ks := [.int, .int, .int, .int, .int, .int, .int, .int, .int, .int, .xs, .xs, .xs]
  st := fun x => { tmps := [.one .any, .one (.sc (.ptr 0 0 none)), .one .any, .one (.sc (.int .i64 x.1)), .one .any, .one .any, .one .any, .one .any, .one .any, .one .any, .one .any, .one .any, .one .any, .one .any, .one .any, .one .any, .one .any, .one .any, .one .any, .one .any, .one .any, .one .any, .one .any, .one .any, .one .any, .one .any, .one .any, .one .any, .one .any, .one .any, .one .any, .one .any, .one .any, .one .any, .one .any, .one .any, .one .any, .one .any, .one .any, .one .any, .one .any, .one .any, .one .any, .one .any, .one .any, .one .any, .one .any, .one .any, .one .any, .one .any, .one .any, .one .any, .one .any, .one .any, .one .any, .one .any, .one .any, .one .any, .one .any, .one .any, .one .any, .one .any, .one .any, .one .any, .one .any, .one .any, .one .any, .one .any, .one .any, .one .any, .one .any, .one .any, .one .any, .one .any, .one .any, .one .any, .one .any, .one .any, .one .any, .one .any, .one .any, .one .any, .one .any, .one .any, .one .any, .one .any, .one .any, .one .any, .one .any, .one .any, .one .any, .one .any, .one .any, .one .any, .one .any, .one .any, .one .any, .one .any, .one .any, .one .any, .one .any, .one .any, .one .any, .one .any, .one .any, .one .any, .one .any, .one .any, .one .any, .one .any, .one .any, .one .any, .one .any, .one .any, .one .any, .one .any, .one .any, .one .any, .one .any, .one .any, .one .any, .one .any, .one .any, .one .any, .one .any, .one .any, .one .any, .one .any, .one .any, .one .any, .one .any, .one .any, .one .any, .one .any, .one .any, .one .any, .one .any, .one .any, .one .any, .one .any, .one .any, .one .any, .one .any, .one .any, .one .any], mem := [.live { segs := [.one (.int .i64 x.2.1), .one (.int .i64 x.2.2.1), .one (.int .i64 x.2.2.2.1), .one (.int .u32 x.2.2.2.2.1), .one (.int .u32 x.2.2.2.2.2.1), .one (.int .u64 x.2.2.2.2.2.2.1), .one (.int .u64 x.2.2.2.2.2.2.2.1), .one (.int .i64 x.2.2.2.2.2.2.2.2.1), .one (.int .i64 x.2.2.2.2.2.2.2.2.2.1), .one (.fr (.xs (.int .u8) x.2.2.2.2.2.2.2.2.2.2.1)), .one (.fr (.xs (.int .u8) x.2.2.2.2.2.2.2.2.2.2.2.1)), .one (.fr (.xs (.int .u8) x.2.2.2.2.2.2.2.2.2.2.2.2.1))], own := .own }] }
noncomputable def p_ref21_Check_s12_F (N : Nat) (β : Type) (x : (Int × Int × Int × Int × Int × Int × Int × Int × Int × Int × List Int × List Int × List Int × Unit)) (ke : ((Int × Unit)) → Option β) : Option β :=
  p_ref21_Check_s13_F N _ (x.1, (1024:Int), x.2.1, x.2.2.1, x.2.2.2.1, x.2.2.2.2.1, x.2.2.2.2.2.1, x.2.2.2.2.2.2.1, x.2.2.2.2.2.2.2.1, x.2.2.2.2.2.2.2.2.1, x.2.2.2.2.2.2.2.2.2.1, x.2.2.2.2.2.2.2.2.2.2.1, x.2.2.2.2.2.2.2.2.2.2.2.1, x.2.2.2.2.2.2.2.2.2.2.2.2.1, ()) fun y20 => (
  ke (y20.1, ()))
noncomputable def p_ref21_Check_s12_go : Go' ((Int × Unit)) := fun y K => K .ret { tmps := [.one .any, .one .any, .one (.sc (.int .i64 y.1)), .one .any, .one .any, .one .any, .one .any, .one .any, .one .any, .one .any, .one .any, .one .any, .one .any, .one .any, .one .any, .one .any, .one .any, .one .any, .one .any, .one .any, .one .any, .one .any, .one .any, .one .any, .one .any, .one .any, .one .any, .one .any, .one .any, .one .any, .one .any, .one .any, .one .any, .one .any, .one .any, .one .any, .one .any, .one .any, .one .any, .one .any, .one .any, .one .any, .one .any, .one .any, .one .any, .one .any, .one .any, .one .any, .one .any, .one .any, .one .any, .one .any, .one .any, .one .any, .one .any, .one .any, .one .any, .one .any, .one .any, .one .any, .one .any, .one .any, .one .any, .one .any, .one .any, .one .any, .one .any, .one .any, .one .any, .one .any, .one .any, .one .any, .one .any, .one .any, .one .any, .one .any, .one .any, .one .any, .one .any, .one .any, .one .any, .one .any, .one .any, .one .any, .one .any, .one .any, .one .any, .one .any, .one .any, .one .any, .one .any, .one .any, .one .any, .one .any, .one .any, .one .any, .one .any, .one .any, .one .any, .one .any, .one .any, .one .any, .one .any, .one .any, .one .any, .one .any, .one .any, .one .any, .one .any, .one .any, .one .any, .one .any, .one .any, .one .any, .one .any, .one .any, .one .any, .one .any, .one .any, .one .any, .one .any, .one .any, .one .any, .one .any, .one .any, .one .any, .one .any, .one .any, .one .any, .one .any, .one .any, .one .any, .one .any, .one .any, .one .any, .one .any, .one .any, .one .any, .one .any, .one .any, .one .any, .one .any, .one .any, .one .any, .one .any], mem := [] }
noncomputable def p_ref21_Check_s12_L (N : Nat) : LT := upd (p_ref21_Check_s13_L N) 8000012 (condE p_ref21_Check_s12_S (p_ref21_Check_s12_F N) p_ref21_Check_s12_go)
theorem p_ref21_Check_s12_ok (N : Nat) : OkAll p_ref21_Check_E p_ref21_Check_H N (p_ref21_Check_s12_L N) (subs p_ref21_Check_c) :=
  addSeq (k := 12) (a := theFst 8000012 p_ref21_Check_c) (b := theRest 8000012 p_ref21_Check_c) (p_ref21_Check_s13_ok N) (by kernel_rfl) (fun x => by kernel_rfl) (fun β x K => by kernel_rfl)
noncomputable def p_ref21_Check_s10_S : Shape where
  h := { tmps := [.any, .sc (.ptr 0 0 false), .any, .sc (.int .i64), .any, .any, .any, .any, .any, .any, .any, .any, .any, .any, .any, .any, .any, .any, .any, .any, .any, .any, .any, .any, .any, .any, .any, .any, .any, .any, .any, .any, .any, .any, .any, .any, .any, .any, .any, .any, .any, .any, .any, .any, .any, .any, .any, .any, .any, .any, .any, .any, .any, .any, .any, .any, .any, .any, .any, .any, .any, .any, .any, .any, .any, .any, .any, .any, .any, .any, .any, .any, .any, .any, .any, .any, .any, .any, .any, .any, .any, .any, .any, .any, .any, .any, .any, .any, .any, .any, .any, .any, .any, .any, .any, .any, .any, .any, .any, .any, .any, .any, .any, .any, .any, .any, .any, .any, .any, .any, .any, .any, .any, .any, .any, .any, .any, .any, .any, .any, .any, .any, .any, .any, .any, .any, .any, .any, .any, .any, .any, .any, .any, .any, .any, .any, .any, .any, .any, .any, .any, .any, .any, .any, .any], mem := [.live [.one (.int .i64), .one (.int .i64), .one (.int .i64), .one (.int .u32), .one (.int .u32), .one (.int .u64), .one (.int .u64), .one (.int .i64), .one (.int .i64), .one (.fr (.int .u8)), .one (.fr (.int .u8)), .one (.fr (.int .u8))] (.own)] }
  ks := [.int, .int, .int, .int, .int, .int, .int, .int, .int, .int, .xs, .xs, .xs]
  st := fun x => { tmps := [.one .any, .one (.sc (.ptr 0 0 none)), .one .any, .one (.sc (.int .i64 x.1)), .one .any, .one .any, .one .any, .one .any, .one .any, .one .any, .one .any, .one .any, .one .any, .one .any, .one .any, .one .any, .one .any, .one .any, .one .any, .one .any, .one .any, .one .any, .one .any, .one .any, .one .any, .one .any, .one .any, .one .any, .one .any, .one .any, .one .any, .one .any, .one .any, .one .any, .one .any, .one .any, .one .any, .one .any, .one .any, .one .any, .one .any, .one .any, .one .any, .one .any, .one .any, .one .any, .one .any, .one .any, .one .any, .one .any, .one .any, .one .any, .one .any, .one .any, .one .any, .one .any, .one .any, .one .any, .one .any, .one .any, .one .any, .one .any, .one .any, .one .any, .one .any, .one .any, .one .any, .one .any, .one .any, .one .any, .one .any, .one .any, .one .any, .one .any, .one .any, .one .any, .one .any, .one .any, .one .any, .one .any, .one .any, .one .any, .one .any, .one .any, .one .any, .one .any, .one .any, .one .any, .one .any, .one .any, .one .any, .one .any, .one .any, .one .any, .one .any, .one .any, .one .any, .one .any, .one .any, .one .any, .one .any, .one .any, .one .any, .one .any, .one .any, .one .any, .one .any, .one .any, .one .any, .one .any, .one .any, .one .any, .one .any, .one .any, .one .any, .one .any, .one .any, .one .any, .one .any, .one .any, .one .any, .one .any, .one .any, .one .any, .one .any, .one .any, .one .any, .one .any, .one .any, .one .any, .one .any, .one .any, .one .any, .one .any, .one .any, .one .any, .one .any, .one .any, .one .any, .one .any, .one .any, .one .any, .one .any, .one .any, .one .any], mem := [.live { segs := [.one (.int .i64 x.2.1), .one (.int .i64 x.2.2.1), .one (.int .i64 x.2.2.2.1), .one (.int .u32 x.2.2.2.2.1), .one (.int .u32 x.2.2.2.2.2.1), .one (.int .u64 x.2.2.2.2.2.2.1), .one (.int .u64 x.2.2.2.2.2.2.2.1), .one (.int .i64 x.2.2.2.2.2.2.2.2.1), .one (.int .i64 x.2.2.2.2.2.2.2.2.2.1), .one (.fr (.xs (.int .u8) x.2.2.2.2.2.2.2.2.2.2.1)), .one (.fr (.xs (.int .u8) x.2.2.2.2.2.2.2.2.2.2.2.1)), .one (.fr (.xs (.int .u8) x.2.2.2.2.2.2.2.2.2.2.2.2.1))], own := .own }] }
noncomputable def p_ref21_Check_s10_F (N : Nat) (β : Type) (x : (Int × Int × Int × Int × Int × Int × Int × Int × Int × Int × List Int × List Int × List Int × Unit)) (ke : ((Int × Unit)) → Option β) : Option β :=
  (g_ref21_has (x.1, (112:Int), ())).bind fun r8 => (
  if (¬ (r8 = true)) then
    if (x.2.2.2.2.2.2.2.2.1 ≠ (0:Int)) then
      ke ((210:Int), ())
    else
      (g_ref21_has (x.1, (112:Int), ())).bind fun r9 => (
      if (r9 = true) then
        if (x.2.2.2.2.2.2.2.2.1 < (0:Int)) then
          ke ((210:Int), ())
        else
          if (x.2.2.2.2.2.2.2.2.1 ≥ x.2.2.2.2.2.2.2.2.2.1) then
            ke ((210:Int), ())
          else
            p_ref21_Check_s12_F N _ (x.1, x.2.1, x.2.2.1, x.2.2.2.1, x.2.2.2.2.1, x.2.2.2.2.2.1, x.2.2.2.2.2.2.1, x.2.2.2.2.2.2.2.1, x.2.2.2.2.2.2.2.2.1, x.2.2.2.2.2.2.2.2.2.1, x.2.2.2.2.2.2.2.2.2.2.1, x.2.2.2.2.2.2.2.2.2.2.2.1, x.2.2.2.2.2.2.2.2.2.2.2.2.1, ()) fun y21 => (
            ke (y21.1, ()))
      else
        p_ref21_Check_s12_F N _ (x.1, x.2.1, x.2.2.1, x.2.2.2.1, x.2.2.2.2.1, x.2.2.2.2.2.1, x.2.2.2.2.2.2.1, x.2.2.2.2.2.2.2.1, x.2.2.2.2.2.2.2.2.1, x.2.2.2.2.2.2.2.2.2.1, x.2.2.2.2.2.2.2.2.2.2.1, x.2.2.2.2.2.2.2.2.2.2.2.1, x.2.2.2.2.2.2.2.2.2.2.2.2.1, ()) fun y22 => (
        ke (y22.1, ())))
  else
    (g_ref21_has (x.1, (112:Int), ())).bind fun r23 => (
    if (r23 = true) then
      if (x.2.2.2.2.2.2.2.2.1 < (0:Int)) then
        ke ((210:Int), ())
      else
        if (x.2.2.2.2.2.2.2.2.1 ≥ x.2.2.2.2.2.2.2.2.2.1) then
          ke ((210:Int), ())
        else
          p_ref21_Check_s12_F N _ (x.1, x.2.1, x.2.2.1, x.2.2.2.1, x.2.2.2.2.1, x.2.2.2.2.2.1, x.2.2.2.2.2.2.1, x.2.2.2.2.2.2.2.1, x.2.2.2.2.2.2.2.2.1, x.2.2.2.2.2.2.2.2.2.1, x.2.2.2.2.2.2.2.2.2.2.1, x.2.2.2.2.2.2.2.2.2.2.2.1, x.2.2.2.2.2.2.2.2.2.2.2.2.1, ()) fun y24 => (
          ke (y24.1, ()))
    else
      p_ref21_Check_s12_F N _ (x.1, x.2.1, x.2.2.1, x.2.2.2.1, x.2.2.2.2.1, x.2.2.2.2.2.1, x.2.2.2.2.2.2.1, x.2.2.2.2.2.2.2.1, x.2.2.2.2.2.2.2.2.1, x.2.2.2.2.2.2.2.2.2.1, x.2.2.2.2.2.2.2.2.2.2.1, x.2.2.2.2.2.2.2.2.2.2.2.1, x.2.2.2.2.2.2.2.2.2.2.2.2.1, ()) fun y25 => (
      ke (y25.1, ()))))
noncomputable def p_ref21_Check_s10_go : Go' ((Int × Unit)) := fun y K => K .ret { tmps := [.one .any, .one .any, .one (.sc (.int .i64 y.1)), .one .any, .one .any, .one .any, .one .any, .one .any, .one .any, .one .any, .one .any, .one .any, .one .any, .one .any, .one .any, .one .any, .one .any, .one .any, .one .any, .one .any, .one .any, .one .any, .one .any, .one .any, .one .any, .one .any, .one .any, .one .any, .one .any, .one .any, .one .any, .one .any, .one .any, .one .any, .one .any, .one .any, .one .any, .one .any, .one .any, .one .any, .one .any, .one .any, .one .any, .one .any, .one .any, .one .any, .one .any, .one .any, .one .any, .one .any, .one .any, .one .any, .one .any, .one .any, .one .any, .one .any, .one .any, .one .any, .one .any, .one .any, .one .any, .one .any, .one .any, .one .any, .one .any, .one .any, .one .any, .one .any, .one .any, .one .any, .one .any, .one .any, .one .any, .one .any, .one .any, .one .any, .one .any, .one .any, .one .any, .one .any, .one .any, .one .any, .one .any, .one .any, .one .any, .one .any, .one .any, .one .any, .one .any, .one .any, .one .any, .one .any, .one .any, .one .any, .one .any, .one .any, .one .any, .one .any, .one .any, .one .any, .one .any, .one .any, .one .any, .one .any, .one .any, .one .any, .one .any, .one .any, .one .any, .one .any, .one .any, .one .any, .one .any, .one .any, .one .any, .one .any, .one .any, .one .any, .one .any, .one .any, .one .any, .one .any, .one .any, .one .any, .one .any, .one .any, .one .any, .one .any, .one .any, .one .any, .one .any, .one .any, .one .any, .one .any, .one .any, .one .any, .one .any, .one .any, .one .any, .one .any, .one .any, .one .any, .one .any, .one .any, .one .any], mem := [] }
noncomputable def p_ref21_Check_s10_L (N : Nat) : LT := upd (p_ref21_Check_s12_L N) 8000010 (condE p_ref21_Check_s10_S (p_ref21_Check_s10_F N) p_ref21_Check_s10_go)
theorem p_ref21_Check_s10_ok (N : Nat) : OkAll p_ref21_Check_E p_ref21_Check_H N (p_ref21_Check_s10_L N) (subs p_ref21_Check_c) :=
  addSeq (k := 10) (a := theFst 8000010 p_ref21_Check_c) (b := theRest 8000010 p_ref21_Check_c) (p_ref21_Check_s12_ok N) (by kernel_rfl) (fun x => by kernel_rfl) (fun β x K => by kernel_rfl)
noncomputable def p_ref21_Check_s8_S : Shape where
  h := { tmps := [.any, .sc (.ptr 0 0 false), .any, .sc (.int .i64), .any, .any, .any, .any, .any, .any, .any, .any, .any, .any, .any, .any, .any, .any, .any, .any, .any, .any, .any, .any, .any, .any, .any, .any, .any, .any, .any, .any, .any, .any, .any, .any, .any, .any, .any, .any, .any, .any, .any, .any, .any, .any, .any, .any, .any, .any, .any, .any, .any, .any, .any, .any, .any, .any, .any, .any, .any, .any, .any, .any, .any, .any, .any, .any, .any, .any, .any, .any, .any, .any, .any, .any, .any, .any, .any, .any, .any, .any, .any, .any, .any, .any, .any, .any, .any, .any, .any, .any, .any, .any, .any, .any, .any, .any, .any, .any, .any, .any, .any, .any, .any, .any, .any, .any, .any, .any, .any, .any, .any, .any, .any, .any, .any, .any, .any, .any, .any, .any, .any, .any, .any, .any, .any, .any, .any, .any, .any, .any, .any, .any, .any, .any, .any, .any, .any, .any, .any, .any, .any, .any, .any], mem := [.live [.one (.int .i64), .one (.int .i64), .one (.int .i64), .one (.int .u32), .one (.int .u32), .one (.int .u64), .one (.int .u64), .one (.int .i64), .one (.int .i64), .one (.fr (.int .u8)), .one (.fr (.int .u8)), .one (.fr (.int .u8))] (.own)] }
  ks := [.int, .int, .int, .int, .int, .int, .int, .int, .int, .int, .xs, .xs, .xs]
  st := fun x => { tmps := [.one .any, .one (.sc (.ptr 0 0 none)), .one .any, .one (.sc (.int .i64 x.1)), .one .any, .one .any, .one .any, .one .any, .one .any, .one .any, .one .any, .one .any, .one .any, .one .any, .one .any, .one .any, .one .any, .one .any, .one .any, .one .any, .one .any, .one .any, .one .any, .one .any, .one .any, .one .any, .one .any, .one .any, .one .any, .one .any, .one .any, .one .any, .one .any, .one .any, .one .any, .one .any, .one .any, .one .any, .one .any, .one .any, .one .any, .one .any, .one .any, .one .any, .one .any, .one .any, .one .any, .one .any, .one .any, .one .any, .one .any, .one .any, .one .any, .one .any, .one .any, .one .any, .one .any, .one .any, .one .any, .one .any, .one .any, .one .any, .one .any, .one .any, .one .any, .one .any, .one .any, .one .any, .one .any, .one .any, .one .any, .one .any, .one .any, .one .any, .one .any, .one .any, .one .any, .one .any, .one .any, .one .any, .one .any, .one .any, .one .any, .one .any, .one .any, .one .any, .one .any, .one .any, .one .any, .one .any, .one .any, .one .any, .one .any, .one .any, .one .any, .one .any, .one .any, .one .any, .one .any, .one .any, .one .any, .one .any, .one .any, .one .any, .one .any, .one .any, .one .any, .one .any, .one .any, .one .any, .one .any, .one .any, .one .any, .one .any, .one .any, .one .any, .one .any, .one .any, .one .any, .one .any, .one .any, .one .any, .one .any, .one .any, .one .any, .one .any, .one .any, .one .any, .one .any, .one .any, .one .any, .one .any, .one .any, .one .any, .one .any, .one .any, .one .any, .one .any, .one .any, .one .any, .one .any, .one .any, .one .any, .one .any, .one .any], mem := [.live { segs := [.one (.int .i64 x.2.1), .one (.int .i64 x.2.2.1), .one (.int .i64 x.2.2.2.1), .one (.int .u32 x.2.2.2.2.1), .one (.int .u32 x.2.2.2.2.2.1), .one (.int .u64 x.2.2.2.2.2.2.1), .one (.int .u64 x.2.2.2.2.2.2.2.1), .one (.int .i64 x.2.2.2.2.2.2.2.2.1), .one (.int .i64 x.2.2.2.2.2.2.2.2.2.1), .one (.fr (.xs (.int .u8) x.2.2.2.2.2.2.2.2.2.2.1)), .one (.fr (.xs (.int .u8) x.2.2.2.2.2.2.2.2.2.2.2.1)), .one (.fr (.xs (.int .u8) x.2.2.2.2.2.2.2.2.2.2.2.2.1))], own := .own }] }
noncomputable def p_ref21_Check_s8_F (N : Nat) (β : Type) (x : (Int × Int × Int × Int × Int × Int × Int × Int × Int × Int × List Int × List Int × List Int × Unit)) (ke : ((Int × Unit)) → Option β) : Option β :=
  (g_ref21_has (x.1, (110:Int), ())).bind fun r6 => (
  if (¬ (r6 = true)) then
    if (x.2.2.2.2.2.2.2.2.2.1 ≠ (0:Int)) then
      ke ((210:Int), ())
    else
      (g_ref21_has (x.1, (110:Int), ())).bind fun r7 => (
      if (r7 = true) then
        if (x.2.2.2.2.2.2.2.2.2.1 < (1:Int)) then
          ke ((210:Int), ())
        else
          if (x.2.2.2.2.2.2.2.2.2.1 > (256:Int)) then
            ke ((210:Int), ())
          else
            p_ref21_Check_s10_F N _ (x.1, x.2.1, x.2.2.1, x.2.2.2.1, x.2.2.2.2.1, x.2.2.2.2.2.1, x.2.2.2.2.2.2.1, x.2.2.2.2.2.2.2.1, x.2.2.2.2.2.2.2.2.1, x.2.2.2.2.2.2.2.2.2.1, x.2.2.2.2.2.2.2.2.2.2.1, x.2.2.2.2.2.2.2.2.2.2.2.1, x.2.2.2.2.2.2.2.2.2.2.2.2.1, ()) fun y26 => (
            ke (y26.1, ()))
      else
        p_ref21_Check_s10_F N _ (x.1, x.2.1, x.2.2.1, x.2.2.2.1, x.2.2.2.2.1, x.2.2.2.2.2.1, x.2.2.2.2.2.2.1, x.2.2.2.2.2.2.2.1, x.2.2.2.2.2.2.2.2.1, x.2.2.2.2.2.2.2.2.2.1, x.2.2.2.2.2.2.2.2.2.2.1, x.2.2.2.2.2.2.2.2.2.2.2.1, x.2.2.2.2.2.2.2.2.2.2.2.2.1, ()) fun y27 => (
        ke (y27.1, ())))
  else
    (g_ref21_has (x.1, (110:Int), ())).bind fun r28 => (
    if (r28 = true) then
      if (x.2.2.2.2.2.2.2.2.2.1 < (1:Int)) then
        ke ((210:Int), ())
      else
        if (x.2.2.2.2.2.2.2.2.2.1 > (256:Int)) then
          ke ((210:Int), ())
        else
          p_ref21_Check_s10_F N _ (x.1, x.2.1, x.2.2.1, x.2.2.2.1, x.2.2.2.2.1, x.2.2.2.2.2.1, x.2.2.2.2.2.2.1, x.2.2.2.2.2.2.2.1, x.2.2.2.2.2.2.2.2.1, x.2.2.2.2.2.2.2.2.2.1, x.2.2.2.2.2.2.2.2.2.2.1, x.2.2.2.2.2.2.2.2.2.2.2.1, x.2.2.2.2.2.2.2.2.2.2.2.2.1, ()) fun y29 => (
          ke (y29.1, ()))
    else
      p_ref21_Check_s10_F N _ (x.1, x.2.1, x.2.2.1, x.2.2.2.1, x.2.2.2.2.1, x.2.2.2.2.2.1, x.2.2.2.2.2.2.1, x.2.2.2.2.2.2.2.1, x.2.2.2.2.2.2.2.2.1, x.2.2.2.2.2.2.2.2.2.1, x.2.2.2.2.2.2.2.2.2.2.1, x.2.2.2.2.2.2.2.2.2.2.2.1, x.2.2.2.2.2.2.2.2.2.2.2.2.1, ()) fun y30 => (
      ke (y30.1, ()))))
noncomputable def p_ref21_Check_s8_go : Go' ((Int × Unit)) := fun y K => K .ret { tmps := [.one .any, .one .any, .one (.sc (.int .i64 y.1)), .one .any, .one .any, .one .any, .one .any, .one .any, .one .any, .one .any, .one .any, .one .any, .one .any, .one .any, .one .any, .one .any, .one .any, .one .any, .one .any, .one .any, .one .any, .one .any, .one .any, .one .any, .one .any, .one .any, .one .any, .one .any, .one .any, .one .any, .one .any, .one .any, .one .any, .one .any, .one .any, .one .any, .one .any, .one .any, .one .any, .one .any, .one .any, .one .any, .one .any, .one .any, .one .any, .one .any, .one .any, .one .any, .one .any, .one .any, .one .any, .one .any, .one .any, .one .any, .one .any, .one .any, .one .any, .one .any, .one .any, .one .any, .one .any, .one .any, .one .any, .one .any, .one .any, .one .any, .one .any, .one .any, .one .any, .one .any, .one .any, .one .any, .one .any, .one .any, .one .any, .one .any, .one .any, .one .any, .one .any, .one .any, .one .any, .one .any, .one .any, .one .any, .one .any, .one .any, .one .any, .one .any, .one .any, .one .any, .one .any, .one .any, .one .any, .one .any, .one .any, .one .any, .one .any, .one .any, .one .any, .one .any, .one .any, .one .any, .one .any, .one .any, .one .any, .one .any, .one .any, .one .any, .one .any, .one .any, .one .any, .one .any, .one .any, .one .any, .one .any, .one .any, .one .any, .one .any, .one .any, .one .any, .one .any, .one .any, .one .any, .one .any, .one .any, .one .any, .one .any, .one .any, .one .any, .one .any, .one .any, .one .any, .one .any, .one .any, .one .any, .one .any, .one .any, .one .any, .one .any, .one .any, .one .any, .one .any, .one .any, .one .any, .one .any], mem := [] }
noncomputable def p_ref21_Check_s8_L (N : Nat) : LT := upd (p_ref21_Check_s10_L N) 8000008 (condE p_ref21_Check_s8_S (p_ref21_Check_s8_F N) p_ref21_Check_s8_go)
theorem p_ref21_Check_s8_ok (N : Nat) : OkAll p_ref21_Check_E p_ref21_Check_H N (p_ref21_Check_s8_L N) (subs p_ref21_Check_c) :=
  addSeq (k := 8) (a := theFst 8000008 p_ref21_Check_c) (b := theRest 8000008 p_ref21_Check_c) (p_ref21_Check_s10_ok N) (by kernel_rfl) (fun x => by kernel_rfl) (fun β x K => by kernel_rfl)
noncomputable def p_ref21_Check_s6_S : Shape where
  h := { tmps := [.any, .sc (.ptr 0 0 false), .any, .sc (.int .i64), .any, .any, .any, .any, .any, .any, .any, .any, .any, .any, .any, .any, .any, .any, .any, .any, .any, .any, .any, .any, .any, .any, .any, .any, .any, .any, .any, .any, .any, .any, .any, .any, .any, .any, .any, .any, .any, .any, .any, .any, .any, .any, .any, .any, .any, .any, .any, .any, .any, .any, .any, .any, .any, .any, .any, .any, .any, .any, .any, .any, .any, .any, .any, .any, .any, .any, .any, .any, .any, .any, .any, .any, .any, .any, .any, .any, .any, .any, .any, .any, .any, .any, .any, .any, .any, .any, .any, .any, .any, .any, .any, .any, .any, .any, .any, .any, .any, .any, .any, .any, .any, .any, .any, .any, .any, .any, .any, .any, .any, .any, .any, .any, .any, .any, .any, .any, .any, .any, .any, .any, .any, .any, .any, .any, .any, .any, .any, .any, .any, .any, .any, .any, .any, .any, .any, .any, .any, .any, .any, .any, .any], mem := [.live [.one (.int .i64), .one (.int .i64), .one (.int .i64), .one (.int .u32), .one (.int .u32), .one (.int .u64), .one (.int .u64), .one (.int .i64), .one (.int .i64), .one (.fr (.int .u8)), .one (.fr (.int .u8)), .one (.fr (.int .u8))] (.own)] }
  ks := [.int, .int, .int, .int, .int, .int, .int, .int, .int, .int, .xs, .xs, .xs]
  st := fun x => { tmps := [.one .any, .one (.sc (.ptr 0 0 none)), .one .any, .one (.sc (.int .i64 x.1)), .one .any, .one .any, .one .any, .one .any, .one .any, .one .any, .one .any, .one .any, .one .any, .one .any, .one .any, .one .any, .one .any, .one .any, .one .any, .one .any, .one .any, .one .any, .one .any, .one .any, .one .any, .one .any, .one .any, .one .any, .one .any, .one .any, .one .any, .one .any, .one .any, .one .any, .one .any, .one .any, .one .any, .one .any, .one .any, .one .any, .one .any, .one .any, .one .any, .one .any, .one .any, .one .any, .one .any, .one .any, .one .any, .one .any, .one .any, .one .any, .one .any, .one .any, .one .any, .one .any, .one .any, .one .any, .one .any, .one .any, .one .any, .one .any, .one .any, .one .any, .one .any, .one .any, .one .any, .one .any, .one .any, .one .any, .one .any, .one .any, .one .any, .one .any, .one .any, .one .any, .one .any, .one .any, .one .any, .one .any, .one .any, .one .any, .one .any, .one .any, .one .any, .one .any, .one .any, .one .any, .one .any, .one .any, .one .any, .one .any, .one .any, .one .any, .one .any, .one .any, .one .any, .one .any, .one .any, .one .any, .one .any, .one .any, .one .any, .one .any, .one .any, .one .any, .one .any, .one .any, .one .any, .one .any, .one .any, .one .any, .one .any, .one .any, .one .any, .one .any, .one .any, .one .any, .one .any, .one .any, .one .any, .one .any, .one .any, .one .any, .one .any, .one .any, .one .any, .one .any, .one .any, .one .any, .one .any, .one .any, .one .any, .one .any, .one .any, .one .any, .one .any, .one .any, .one .any, .one .any, .one .any, .one .any, .one .any, .one .any, .one .any], mem := [.live { segs := [.one (.int .i64 x.2.1), .one (.int .i64 x.2.2.1), .one (.int .i64 x.2.2.2.1), .one (.int .u32 x.2.2.2.2.1), .one (.int .u32 x.2.2.2.2.2.1), .one (.int .u64 x.2.2.2.2.2.2.1), .one (.int .u64 x.2.2.2.2.2.2.2.1), .one (.int .i64 x.2.2.2.2.2.2.2.2.1), .one (.int .i64 x.2.2.2.2.2.2.2.2.2.1), .one (.fr (.xs (.int .u8) x.2.2.2.2.2.2.2.2.2.2.1)), .one (.fr (.xs (.int .u8) x.2.2.2.2.2.2.2.2.2.2.2.1)), .one (.fr (.xs (.int .u8) x.2.2.2.2.2.2.2.2.2.2.2.2.1))], own := .own }] }
noncomputable def p_ref21_Check_s6_F (N : Nat) (β : Type) (x : (Int × Int × Int × Int × Int × Int × Int × Int × Int × Int × List Int × List Int × List Int × Unit)) (ke : ((Int × Unit)) → Option β) : Option β :=
  (g_ref21_has (x.1, (107:Int), ())).bind fun r2 => (
  if (¬ (r2 = true)) then
    if (x.2.2.2.2.2.1 ≠ (0:Int)) then
      ke ((210:Int), ())
    else
      (g_ref21_has (x.1, (114:Int), ())).bind fun r3 => (
      if (¬ (r3 = true)) then
        if ((x.2.2.2.2.2.2.1 :: (x.2.2.2.2.2.2.2.1 :: [])) ≠ (List.replicate 2 0)) then
          ke ((210:Int), ())
        else
          (g_ref21_has (x.1, (114:Int), ())).bind fun r4 => (
          if (r4 = true) then
            (g_ref19_One ((x.2.2.2.2.2.2.1, x.2.2.2.2.2.2.2.1, ()), ())).bind fun r5 => (
            if (¬ (r5 = true)) then
              ke ((210:Int), ())
            else
              p_ref21_Check_s8_F N _ (x.1, x.2.1, x.2.2.1, x.2.2.2.1, x.2.2.2.2.1, x.2.2.2.2.2.1, x.2.2.2.2.2.2.1, x.2.2.2.2.2.2.2.1, x.2.2.2.2.2.2.2.2.1, x.2.2.2.2.2.2.2.2.2.1, x.2.2.2.2.2.2.2.2.2.2.1, x.2.2.2.2.2.2.2.2.2.2.2.1, x.2.2.2.2.2.2.2.2.2.2.2.2.1, ()) fun y31 => (
              ke (y31.1, ())))
          else
            p_ref21_Check_s8_F N _ (x.1, x.2.1, x.2.2.1, x.2.2.2.1, x.2.2.2.2.1, x.2.2.2.2.2.1, x.2.2.2.2.2.2.1, x.2.2.2.2.2.2.2.1, x.2.2.2.2.2.2.2.2.1, x.2.2.2.2.2.2.2.2.2.1, x.2.2.2.2.2.2.2.2.2.2.1, x.2.2.2.2.2.2.2.2.2.2.2.1, x.2.2.2.2.2.2.2.2.2.2.2.2.1, ()) fun y32 => (
            ke (y32.1, ())))
      else
        (g_ref21_has (x.1, (114:Int), ())).bind fun r33 => (
        if (r33 = true) then
          (g_ref19_One ((x.2.2.2.2.2.2.1, x.2.2.2.2.2.2.2.1, ()), ())).bind fun r34 => (
          if (¬ (r34 = true)) then
            ke ((210:Int), ())
          else
            p_ref21_Check_s8_F N _ (x.1, x.2.1, x.2.2.1, x.2.2.2.1, x.2.2.2.2.1, x.2.2.2.2.2.1, x.2.2.2.2.2.2.1, x.2.2.2.2.2.2.2.1, x.2.2.2.2.2.2.2.2.1, x.2.2.2.2.2.2.2.2.2.1, x.2.2.2.2.2.2.2.2.2.2.1, x.2.2.2.2.2.2.2.2.2.2.2.1, x.2.2.2.2.2.2.2.2.2.2.2.2.1, ()) fun y35 => (
            ke (y35.1, ())))
        else
          p_ref21_Check_s8_F N _ (x.1, x.2.1, x.2.2.1, x.2.2.2.1, x.2.2.2.2.1, x.2.2.2.2.2.1, x.2.2.2.2.2.2.1, x.2.2.2.2.2.2.2.1, x.2.2.2.2.2.2.2.2.1, x.2.2.2.2.2.2.2.2.2.1, x.2.2.2.2.2.2.2.2.2.2.1, x.2.2.2.2.2.2.2.2.2.2.2.1, x.2.2.2.2.2.2.2.2.2.2.2.2.1, ()) fun y36 => (
          ke (y36.1, ()))))
  else
    (g_ref21_has (x.1, (114:Int), ())).bind fun r37 => (
    if (¬ (r37 = true)) then
      if ((x.2.2.2.2.2.2.1 :: (x.2.2.2.2.2.2.2.1 :: [])) ≠ (List.replicate 2 0)) then
        ke ((210:Int), ())
      else
        (g_ref21_has (x.1, (114:Int), ())).bind fun r38 => (
        if (r38 = true) then
          (g_ref19_One ((x.2.2.2.2.2.2.1, x.2.2.2.2.2.2.2.1, ()), ())).bind fun r39 => (
          if (¬ (r39 = true)) then
            ke ((210:Int), ())
          else
            p_ref21_Check_s8_F N _ (x.1, x.2.1, x.2.2.1, x.2.2.2.1, x.2.2.2.2.1, x.2.2.2.2.2.1, x.2.2.2.2.2.2.1, x.2.2.2.2.2.2.2.1, x.2.2.2.2.2.2.2.2.1, x.2.2.2.2.2.2.2.2.2.1, x.2.2.2.2.2.2.2.2.2.2.1, x.2.2.2.2.2.2.2.2.2.2.2.1, x.2.2.2.2.2.2.2.2.2.2.2.2.1, ()) fun y40 => (
            ke (y40.1, ())))
        else
          p_ref21_Check_s8_F N _ (x.1, x.2.1, x.2.2.1, x.2.2.2.1, x.2.2.2.2.1, x.2.2.2.2.2.1, x.2.2.2.2.2.2.1, x.2.2.2.2.2.2.2.1, x.2.2.2.2.2.2.2.2.1, x.2.2.2.2.2.2.2.2.2.1, x.2.2.2.2.2.2.2.2.2.2.1, x.2.2.2.2.2.2.2.2.2.2.2.1, x.2.2.2.2.2.2.2.2.2.2.2.2.1, ()) fun y41 => (
          ke (y41.1, ())))
    else
      (g_ref21_has (x.1, (114:Int), ())).bind fun r42 => (
      if (r42 = true) then
        (g_ref19_One ((x.2.2.2.2.2.2.1, x.2.2.2.2.2.2.2.1, ()), ())).bind fun r43 => (
        if (¬ (r43 = true)) then
          ke ((210:Int), ())
        else
          p_ref21_Check_s8_F N _ (x.1, x.2.1, x.2.2.1, x.2.2.2.1, x.2.2.2.2.1, x.2.2.2.2.2.1, x.2.2.2.2.2.2.1, x.2.2.2.2.2.2.2.1, x.2.2.2.2.2.2.2.2.1, x.2.2.2.2.2.2.2.2.2.1, x.2.2.2.2.2.2.2.2.2.2.1, x.2.2.2.2.2.2.2.2.2.2.2.1, x.2.2.2.2.2.2.2.2.2.2.2.2.1, ()) fun y44 => (
          ke (y44.1, ())))
      else
        p_ref21_Check_s8_F N _ (x.1, x.2.1, x.2.2.1, x.2.2.2.1, x.2.2.2.2.1, x.2.2.2.2.2.1, x.2.2.2.2.2.2.1, x.2.2.2.2.2.2.2.1, x.2.2.2.2.2.2.2.2.1, x.2.2.2.2.2.2.2.2.2.1, x.2.2.2.2.2.2.2.2.2.2.1, x.2.2.2.2.2.2.2.2.2.2.2.1, x.2.2.2.2.2.2.2.2.2.2.2.2.1, ()) fun y45 => (
        ke (y45.1, ())))))
noncomputable def p_ref21_Check_s6_go : Go' ((Int × Unit)) := fun y K => K .ret { tmps := [.one .any, .one .any, .one (.sc (.int .i64 y.1)), .one .any, .one .any, .one .any, .one .any, .one .any, .one .any, .one .any, .one .any, .one .any, .one .any, .one .any, .one .any, .one .any, .one .any, .one .any, .one .any, .one .any, .one .any, .one .any, .one .any, .one .any, .one .any, .one .any, .one .any, .one .any, .one .any, .one .any, .one .any, .one .any, .one .any, .one .any, .one .any, .one .any, .one .any, .one .any, .one .any, .one .any, .one .any, .one .any, .one .any, .one .any, .one .any, .one .any, .one .any, .one .any, .one .any, .one .any, .one .any, .one .any, .one .any, .one .any, .one .any, .one .any, .one .any, .one .any, .one .any, .one .any, .one .any, .one .any, .one .any, .one .any, .one .any, .one .any, .one .any, .one .any, .one .any, .one .any, .one .any, .one .any, .one .any, .one .any, .one .any, .one .any, .one .any, .one .any, .one .any, .one .any, .one .any, .one .any, .one .any, .one .any, .one .any, .one .any, .one .any, .one .any, .one .any, .one .any, .one .any, .one .any, .one .any, .one .any, .one .any, .one .any, .one .any, .one .any, .one .any, .one .any, .one .any, .one .any, .one .any, .one .any, .one .any, .one .any, .one .any, .one .any, .one .any, .one .any, .one .any, .one .any, .one .any, .one .any, .one .any, .one .any, .one .any, .one .any, .one .any, .one .any, .one .any, .one .any, .one .any, .one .any, .one .any, .one .any, .one .any, .one .any, .one .any, .one .any, .one .any, .one .any, .one .any, .one .any, .one .any, .one .any, .one .any, .one .any, .one .any, .one .any, .one .any, .one .any, .one .any, .one .any, .one .any], mem := [] }
noncomputable def p_ref21_Check_s6_L (N : Nat) : LT := upd (p_ref21_Check_s8_L N) 8000006 (condE p_ref21_Check_s6_S (p_ref21_Check_s6_F N) p_ref21_Check_s6_go)
theorem p_ref21_Check_s6_ok (N : Nat) : OkAll p_ref21_Check_E p_ref21_Check_H N (p_ref21_Check_s6_L N) (subs p_ref21_Check_c) :=
  addSeq (k := 6) (a := theFst 8000006 p_ref21_Check_c) (b := theRest 8000006 p_ref21_Check_c) (p_ref21_Check_s8_ok N) (by kernel_rfl) (fun x => by kernel_rfl) (fun β x K => by kernel_rfl)
abbrev p_ref21_Check_ks : List Kd := [.cat [.int .i64, .int .i64, .int .i64, .int .u32, .int .u32, .int .u64, .int .u64, .int .i64, .int .i64, .sl (.int .u8), .sl (.int .u8), .sl (.int .u8)]]
abbrev p_ref21_Check_rs : List Kd := [.int .i64]
noncomputable def p_ref21_Check (N : Nat) (x : (Int × Int × Int × Int × Int × Int × Int × Int × Int × List Int × List Int × List Int × Unit) × Unit) : Option (Int) :=
  (g_ref21_Name (x.1.1, ())).bind fun r1 => (
  if (r1 = (⟨#[]⟩ : ByteArray)) then
    some (211:Int)
  else
    if (x.1.2.1 < (0:Int)) then
      some (210:Int)
    else
      if (x.1.2.1 > (15:Int)) then
        some (210:Int)
      else
        if (x.1.2.2.1 < (0:Int)) then
          some (210:Int)
        else
          if (x.1.2.2.1 > (15:Int)) then
            some (210:Int)
          else
            if (x.1.2.1 = x.1.2.2.1) then
              some (210:Int)
            else
              p_ref21_Check_s6_F N _ (x.1.1, x.1.1, x.1.2.1, x.1.2.2.1, x.1.2.2.2.1, x.1.2.2.2.2.1, x.1.2.2.2.2.2.1, x.1.2.2.2.2.2.2.1, x.1.2.2.2.2.2.2.2.1, x.1.2.2.2.2.2.2.2.2.1, x.1.2.2.2.2.2.2.2.2.2.1, x.1.2.2.2.2.2.2.2.2.2.2.1, x.1.2.2.2.2.2.2.2.2.2.2.2.1, ()) fun y46 => (
              some y46.1))
theorem p_ref21_Check_eq (N : Nat) (x : Ds [.cat [.int .i64, .int .i64, .int .i64, .int .u32, .int .u32, .int .u64, .int .u64, .int .i64, .int .i64, .sl (.int .u8), .sl (.int .u8), .sl (.int .u8)]]) : funL p_ref21_Check_E p_ref21_Check_H (p_ref21_Check_s6_L N) N Go.Proofs.Try.f26 p_ref21_Check_c [.cat [.int .i64, .int .i64, .int .i64, .int .u32, .int .u32, .int .u64, .int .u64, .int .i64, .int .i64, .sl (.int .u8), .sl (.int .u8), .sl (.int .u8)]] [.int .i64] x = p_ref21_Check N x := by kernel_rfl
theorem p_ref21_Check_Eok (he_ref21_Name : SigOk Go.Proofs.Try.prog 15 ⟨[.int .i64], [.str], g_ref21_Name⟩) (he_ref21_has : SigOk Go.Proofs.Try.prog 38 ⟨[.int .i64, .int .i32], [.bool], g_ref21_has⟩) (he_ref19_One : SigOk Go.Proofs.Try.prog 49 ⟨[.cat [.int .u64, .int .u64]], [.bool], g_ref19_One⟩) (he_ref21_so : SigOk Go.Proofs.Try.prog 50 ⟨[.bool, .sl (.int .u8), .int .i64], [.bool], g_ref21_so⟩) (he_ref21_marked : SigOk Go.Proofs.Try.prog 51 ⟨[.int .i64, .sl (.int .u8)], [.bool], g_ref21_marked⟩) : p_ref21_Check_E.Ok Go.Proofs.Try.prog := AE.ofQ_ok (all_cons ty3_ok (all_cons ty25_ok (all_cons ty26_ok (all_cons ty28_ok (all_cons ty29_ok (all_cons ty31_ok all_nil)))))) (all_cons ⟨he_ref21_Name, enters_ref21_Name⟩ (all_cons ⟨he_ref21_has, enters_ref21_has⟩ (all_cons ⟨he_ref19_One, enters_ref19_One⟩ (all_cons ⟨he_ref21_so, enters_ref21_so⟩ (all_cons ⟨he_ref21_marked, enters_ref21_marked⟩ all_nil))))) (all_cons steq28_ok all_nil)
theorem p_ref21_Check_ok (he_ref21_Name : SigOk Go.Proofs.Try.prog 15 ⟨[.int .i64], [.str], g_ref21_Name⟩) (he_ref21_has : SigOk Go.Proofs.Try.prog 38 ⟨[.int .i64, .int .i32], [.bool], g_ref21_has⟩) (he_ref19_One : SigOk Go.Proofs.Try.prog 49 ⟨[.cat [.int .u64, .int .u64]], [.bool], g_ref19_One⟩) (he_ref21_so : SigOk Go.Proofs.Try.prog 50 ⟨[.bool, .sl (.int .u8), .int .i64], [.bool], g_ref21_so⟩) (he_ref21_marked : SigOk Go.Proofs.Try.prog 51 ⟨[.int .i64, .sl (.int .u8)], [.bool], g_ref21_marked⟩) {g : Ds [.cat [.int .i64, .int .i64, .int .i64, .int .u32, .int .u32, .int .u64, .int .u64, .int .i64, .int .i64, .sl (.int .u8), .sl (.int .u8), .sl (.int .u8)]] → Option (Rs [.int .i64])} (hg : ∀ x r, g x = some r → ∃ N, p_ref21_Check N x = some r) : SigOk Go.Proofs.Try.prog 26 ⟨[.cat [.int .i64, .int .i64, .int .i64, .int .u32, .int .u32, .int .u64, .int .u64, .int .i64, .int .i64, .sl (.int .u8), .sl (.int .u8), .sl (.int .u8)]], [.int .i64], g⟩ :=
  fun_of (E := p_ref21_Check_E) (H := p_ref21_Check_H) (L := fun N => p_ref21_Check_s6_L N) (c := p_ref21_Check_c) (ks := p_ref21_Check_ks) (rs := p_ref21_Check_rs) (F := p_ref21_Check) (p_ref21_Check_Eok he_ref21_Name he_ref21_has he_ref19_One he_ref21_so he_ref21_marked) mix Go.Proofs.Try.func26 (by kernel_rfl) (fun N => p_ref21_Check_s6_ok N) p_ref21_Check_eq hg

/-! livery/liveryref21.form -/
noncomputable def p_ref21_form_E : AE := AE.ofI [(3, ty3), (5, ty5), (9, ty9), (25, ty25), (26, ty26), (28, ty28), (29, ty29), (31, ty31), (42, ty42)] [(64, ⟨[.int .u64, .int .i64], [.sl (.int .u8)], g_ref01_Big⟩), (31, ⟨[.sls (.int .u8)], [.sl (.int .u8)], g_ref01_Join⟩), (65, ⟨[.sl (.int .u8)], [.sl (.int .u8)], g_ref21_text⟩)] [(28, .u64, 2)] [(13, i_ref21_Has)] [29, 32, 41, 54, 63, 72, 80, 88] [(3, 20)] []
noncomputable def p_ref21_form_H : Hints := [(3000000, [4])]
noncomputable def p_ref21_form_c : Code := (Go.Proofs.Try.f35).body.getD .skip
abbrev p_ref21_form_ks : List Kd := [.cat [.int .i64, .int .i64, .int .i64, .int .u32, .int .u32, .int .u64, .int .u64, .int .i64, .int .i64, .sl (.int .u8), .sl (.int .u8), .sl (.int .u8)], .bool]
abbrev p_ref21_form_rs : List Kd := [.sl (.int .u8)]
noncomputable def p_ref21_form (N : Nat) (x : (Int × Int × Int × Int × Int × Int × Int × Int × Int × List Int × List Int × List Int × Unit) × Bool × Unit) : Option (List Int) :=
  (g_ref01_Big ((IntKind.u64.wrap x.1.2.2.2.1), (4:Int), ())).bind fun r1 => (
  (g_ref01_Join ([(List.set (List.set (List.set (List.replicate 3 0) 0 (IntKind.u8.wrap x.1.1)) 1 (IntKind.u8.wrap x.1.2.1)) 2 (IntKind.u8.wrap x.1.2.2.1)), r1], ())).bind fun r2 => (
  if (x.1.1 = (1:Int)) then
    (g_ref01_Big ((IntKind.u64.wrap x.1.2.2.2.2.1), (4:Int), ())).bind fun r3 => (
    (g_ref01_Join ([r2, r3], ())).bind fun r4 => (
    (g_ref01_Big (x.1.2.2.2.2.2.1, (8:Int), ())).bind fun r5 => (
    (g_ref01_Big (x.1.2.2.2.2.2.2.1, (8:Int), ())).bind fun r6 => (
    (g_ref01_Join ([r4, r5, r6], ())).bind fun r7 => (
    (g_ref21_text (x.1.2.2.2.2.2.2.2.2.2.1, ())).bind fun r8 => (
    (g_ref01_Join ([r7, r8], ())).bind fun r9 => (
    (g_ref21_text (x.1.2.2.2.2.2.2.2.2.2.2.1, ())).bind fun r10 => (
    (g_ref01_Join ([r9, r10], ())).bind fun r11 => (
    some r11)))))))))
  else
    if (x.1.1 = (2:Int)) then
      (g_ref01_Big ((IntKind.u64.wrap x.1.2.2.2.2.1), (4:Int), ())).bind fun r12 => (
      (g_ref01_Join ([r2, r12], ())).bind fun r13 => (
      (g_ref01_Big (x.1.2.2.2.2.2.1, (8:Int), ())).bind fun r14 => (
      (g_ref01_Big (x.1.2.2.2.2.2.2.1, (8:Int), ())).bind fun r15 => (
      (g_ref01_Join ([r13, r14, r15], ())).bind fun r16 => (
      (g_ref21_text (x.1.2.2.2.2.2.2.2.2.2.2.1, ())).bind fun r17 => (
      (g_ref01_Join ([r16, r17], ())).bind fun r18 => (
      if (x.2.1 = true) then
        (g_ref21_text (x.1.2.2.2.2.2.2.2.2.2.2.2.1, ())).bind fun r19 => (
        (g_ref01_Join ([r18, r19], ())).bind fun r20 => (
        some r20))
      else
        some r18)))))))
    else
      if (x.1.1 = (3:Int)) then
        (g_ref01_Big ((IntKind.u64.wrap x.1.2.2.2.2.2.2.2.1), (2:Int), ())).bind fun r21 => (
        (g_ref01_Join ([r2, r21], ())).bind fun r22 => (
        (g_ref01_Big ((IntKind.u64.wrap x.1.2.2.2.2.2.2.2.2.1), (2:Int), ())).bind fun r23 => (
        (g_ref01_Join ([r22, r23], ())).bind fun r24 => (
        (g_ref21_text (x.1.2.2.2.2.2.2.2.2.2.1, ())).bind fun r25 => (
        (g_ref01_Join ([r24, r25], ())).bind fun r26 => (
        some r26))))))
      else
        if (x.1.1 = (4:Int)) then
          (g_ref01_Big ((IntKind.u64.wrap x.1.2.2.2.2.2.2.2.2.1), (2:Int), ())).bind fun r27 => (
          (g_ref01_Join ([r2, r27], ())).bind fun r28 => (
          (g_ref21_text (x.1.2.2.2.2.2.2.2.2.2.1, ())).bind fun r29 => (
          (g_ref01_Join ([r28, r29], ())).bind fun r30 => (
          some r30))))
        else
          if (x.1.1 = (5:Int)) then
            (g_ref01_Big ((IntKind.u64.wrap x.1.2.2.2.2.1), (4:Int), ())).bind fun r31 => (
            (g_ref01_Join ([r2, r31], ())).bind fun r32 => (
            (g_ref01_Big (x.1.2.2.2.2.2.1, (8:Int), ())).bind fun r33 => (
            (g_ref01_Big (x.1.2.2.2.2.2.2.1, (8:Int), ())).bind fun r34 => (
            (g_ref01_Join ([r32, r33, r34], ())).bind fun r35 => (
            if (x.2.1 = true) then
              (g_ref21_text (x.1.2.2.2.2.2.2.2.2.2.2.2.1, ())).bind fun r36 => (
              (g_ref01_Join ([r35, r36], ())).bind fun r37 => (
              some r37))
            else
              some r35)))))
          else
            if (x.1.1 = (6:Int)) then
              (g_ref01_Big ((IntKind.u64.wrap x.1.2.2.2.2.1), (4:Int), ())).bind fun r38 => (
              (g_ref01_Join ([r2, r38], ())).bind fun r39 => (
              (g_ref01_Big (x.1.2.2.2.2.2.1, (8:Int), ())).bind fun r40 => (
              (g_ref01_Big (x.1.2.2.2.2.2.2.1, (8:Int), ())).bind fun r41 => (
              (g_ref01_Join ([r39, r40, r41], ())).bind fun r42 => (
              if (x.2.1 = true) then
                (g_ref21_text (x.1.2.2.2.2.2.2.2.2.2.2.2.1, ())).bind fun r43 => (
                (g_ref01_Join ([r42, r43], ())).bind fun r44 => (
                some r44))
              else
                some r42)))))
            else
              some r2))
theorem p_ref21_form_eq (N : Nat) (x : Ds [.cat [.int .i64, .int .i64, .int .i64, .int .u32, .int .u32, .int .u64, .int .u64, .int .i64, .int .i64, .sl (.int .u8), .sl (.int .u8), .sl (.int .u8)], .bool]) : funL p_ref21_form_E p_ref21_form_H (LT.nil) N Go.Proofs.Try.f35 p_ref21_form_c [.cat [.int .i64, .int .i64, .int .i64, .int .u32, .int .u32, .int .u64, .int .u64, .int .i64, .int .i64, .sl (.int .u8), .sl (.int .u8), .sl (.int .u8)], .bool] [.sl (.int .u8)] x = p_ref21_form N x := by kernel_rfl
theorem p_ref21_form_Eok (he_ref01_Big : SigOk Go.Proofs.Try.prog 64 ⟨[.int .u64, .int .i64], [.sl (.int .u8)], g_ref01_Big⟩) (he_ref01_Join : SigOk Go.Proofs.Try.prog 31 ⟨[.sls (.int .u8)], [.sl (.int .u8)], g_ref01_Join⟩) (he_ref21_text : SigOk Go.Proofs.Try.prog 65 ⟨[.sl (.int .u8)], [.sl (.int .u8)], g_ref21_text⟩) : p_ref21_form_E.Ok Go.Proofs.Try.prog := AE.ofI_ok (all_cons ty3_ok (all_cons ty5_ok (all_cons ty9_ok (all_cons ty25_ok (all_cons ty26_ok (all_cons ty28_ok (all_cons ty29_ok (all_cons ty31_ok (all_cons ty42_ok all_nil))))))))) (all_cons ⟨he_ref01_Big, enters_ref01_Big⟩ (all_cons ⟨he_ref01_Join, enters_ref01_Join⟩ (all_cons ⟨he_ref21_text, enters_ref21_text⟩ all_nil))) (all_cons steq28_ok all_nil) (all_cons ⟨i_ref21_Has_ok, enters_ref21_Has⟩ all_nil) all_nil
theorem p_ref21_form_ok (he_ref01_Big : SigOk Go.Proofs.Try.prog 64 ⟨[.int .u64, .int .i64], [.sl (.int .u8)], g_ref01_Big⟩) (he_ref01_Join : SigOk Go.Proofs.Try.prog 31 ⟨[.sls (.int .u8)], [.sl (.int .u8)], g_ref01_Join⟩) (he_ref21_text : SigOk Go.Proofs.Try.prog 65 ⟨[.sl (.int .u8)], [.sl (.int .u8)], g_ref21_text⟩) {g : Ds [.cat [.int .i64, .int .i64, .int .i64, .int .u32, .int .u32, .int .u64, .int .u64, .int .i64, .int .i64, .sl (.int .u8), .sl (.int .u8), .sl (.int .u8)], .bool] → Option (Rs [.sl (.int .u8)])} (hg : ∀ x r, g x = some r → ∃ N, p_ref21_form N x = some r) : SigOk Go.Proofs.Try.prog 35 ⟨[.cat [.int .i64, .int .i64, .int .i64, .int .u32, .int .u32, .int .u64, .int .u64, .int .i64, .int .i64, .sl (.int .u8), .sl (.int .u8), .sl (.int .u8)], .bool], [.sl (.int .u8)], g⟩ :=
  fun_of (E := p_ref21_form_E) (H := p_ref21_form_H) (L := fun N => LT.nil) (c := p_ref21_form_c) (ks := p_ref21_form_ks) (rs := p_ref21_form_rs) (F := p_ref21_form) (p_ref21_form_Eok he_ref01_Big he_ref01_Join he_ref21_text) mix Go.Proofs.Try.func35 (by kernel_rfl) (fun N => OkAll.nil) p_ref21_form_eq hg

/-! livery/liveryref21.Put -/
noncomputable def p_ref21_Put_E : AE := AE.ofQ [(31, ty31)] [(26, ⟨[.cat [.int .i64, .int .i64, .int .i64, .int .u32, .int .u32, .int .u64, .int .u64, .int .i64, .int .i64, .sl (.int .u8), .sl (.int .u8), .sl (.int .u8)]], [.int .i64], g_ref21_Check⟩), (35, ⟨[.cat [.int .i64, .int .i64, .int .i64, .int .u32, .int .u32, .int .u64, .int .u64, .int .i64, .int .i64, .sl (.int .u8), .sl (.int .u8), .sl (.int .u8)], .bool], [.sl (.int .u8)], g_ref21_form⟩)] [(28, .u64, 2)]
noncomputable def p_ref21_Put_H : Hints := [(3000000, [2, 3])]
noncomputable def p_ref21_Put_c : Code := (Go.Proofs.Try.f18).body.getD .skip
abbrev p_ref21_Put_ks : List Kd := [.cat [.int .i64, .int .i64, .int .i64, .int .u32, .int .u32, .int .u64, .int .u64, .int .i64, .int .i64, .sl (.int .u8), .sl (.int .u8), .sl (.int .u8)]]
abbrev p_ref21_Put_rs : List Kd := [.sl (.int .u8), .int .i64]
noncomputable def p_ref21_Put (N : Nat) (x : (Int × Int × Int × Int × Int × Int × Int × Int × Int × List Int × List Int × List Int × Unit) × Unit) : Option (List Int × Int) :=
  (g_ref21_Check ((x.1.1, x.1.2.1, x.1.2.2.1, x.1.2.2.2.1, x.1.2.2.2.2.1, x.1.2.2.2.2.2.1, x.1.2.2.2.2.2.2.1, x.1.2.2.2.2.2.2.2.1, x.1.2.2.2.2.2.2.2.2.1, x.1.2.2.2.2.2.2.2.2.2.1, x.1.2.2.2.2.2.2.2.2.2.2.1, x.1.2.2.2.2.2.2.2.2.2.2.2.1, ()), ())).bind fun r1 => (
  if (r1 ≠ (0:Int)) then
    some ([], r1)
  else
    (g_ref21_form ((x.1.1, x.1.2.1, x.1.2.2.1, x.1.2.2.2.1, x.1.2.2.2.2.1, x.1.2.2.2.2.2.1, x.1.2.2.2.2.2.2.1, x.1.2.2.2.2.2.2.2.1, x.1.2.2.2.2.2.2.2.2.1, x.1.2.2.2.2.2.2.2.2.2.1, x.1.2.2.2.2.2.2.2.2.2.2.1, x.1.2.2.2.2.2.2.2.2.2.2.2.1, ()), true, ())).bind fun r2 => (
    some (r2, (0:Int))))
theorem p_ref21_Put_eq (N : Nat) (x : Ds [.cat [.int .i64, .int .i64, .int .i64, .int .u32, .int .u32, .int .u64, .int .u64, .int .i64, .int .i64, .sl (.int .u8), .sl (.int .u8), .sl (.int .u8)]]) : funL p_ref21_Put_E p_ref21_Put_H (LT.nil) N Go.Proofs.Try.f18 p_ref21_Put_c [.cat [.int .i64, .int .i64, .int .i64, .int .u32, .int .u32, .int .u64, .int .u64, .int .i64, .int .i64, .sl (.int .u8), .sl (.int .u8), .sl (.int .u8)]] [.sl (.int .u8), .int .i64] x = p_ref21_Put N x := by kernel_rfl
theorem p_ref21_Put_Eok (he_ref21_Check : SigOk Go.Proofs.Try.prog 26 ⟨[.cat [.int .i64, .int .i64, .int .i64, .int .u32, .int .u32, .int .u64, .int .u64, .int .i64, .int .i64, .sl (.int .u8), .sl (.int .u8), .sl (.int .u8)]], [.int .i64], g_ref21_Check⟩) (he_ref21_form : SigOk Go.Proofs.Try.prog 35 ⟨[.cat [.int .i64, .int .i64, .int .i64, .int .u32, .int .u32, .int .u64, .int .u64, .int .i64, .int .i64, .sl (.int .u8), .sl (.int .u8), .sl (.int .u8)], .bool], [.sl (.int .u8)], g_ref21_form⟩) : p_ref21_Put_E.Ok Go.Proofs.Try.prog := AE.ofQ_ok (all_cons ty31_ok all_nil) (all_cons ⟨he_ref21_Check, enters_ref21_Check⟩ (all_cons ⟨he_ref21_form, enters_ref21_form⟩ all_nil)) (all_cons steq28_ok all_nil)
theorem p_ref21_Put_ok (he_ref21_Check : SigOk Go.Proofs.Try.prog 26 ⟨[.cat [.int .i64, .int .i64, .int .i64, .int .u32, .int .u32, .int .u64, .int .u64, .int .i64, .int .i64, .sl (.int .u8), .sl (.int .u8), .sl (.int .u8)]], [.int .i64], g_ref21_Check⟩) (he_ref21_form : SigOk Go.Proofs.Try.prog 35 ⟨[.cat [.int .i64, .int .i64, .int .i64, .int .u32, .int .u32, .int .u64, .int .u64, .int .i64, .int .i64, .sl (.int .u8), .sl (.int .u8), .sl (.int .u8)], .bool], [.sl (.int .u8)], g_ref21_form⟩) {g : Ds [.cat [.int .i64, .int .i64, .int .i64, .int .u32, .int .u32, .int .u64, .int .u64, .int .i64, .int .i64, .sl (.int .u8), .sl (.int .u8), .sl (.int .u8)]] → Option (Rs [.sl (.int .u8), .int .i64])} (hg : ∀ x r, g x = some r → ∃ N, p_ref21_Put N x = some r) : SigOk Go.Proofs.Try.prog 18 ⟨[.cat [.int .i64, .int .i64, .int .i64, .int .u32, .int .u32, .int .u64, .int .u64, .int .i64, .int .i64, .sl (.int .u8), .sl (.int .u8), .sl (.int .u8)]], [.sl (.int .u8), .int .i64], g⟩ :=
  fun_of (E := p_ref21_Put_E) (H := p_ref21_Put_H) (L := fun N => LT.nil) (c := p_ref21_Put_c) (ks := p_ref21_Put_ks) (rs := p_ref21_Put_rs) (F := p_ref21_Put) (p_ref21_Put_Eok he_ref21_Check he_ref21_form) mix Go.Proofs.Try.func18 (by kernel_rfl) (fun N => OkAll.nil) p_ref21_Put_eq hg

/-! livery/liveryref21.Words -/
noncomputable def p_ref21_Words_E : AE := AE.ofQ [(3, ty3), (5, ty5), (29, ty29), (31, ty31), (42, ty42)] [(26, ⟨[.cat [.int .i64, .int .i64, .int .i64, .int .u32, .int .u32, .int .u64, .int .u64, .int .i64, .int .i64, .sl (.int .u8), .sl (.int .u8), .sl (.int .u8)]], [.int .i64], g_ref21_Check⟩), (38, ⟨[.int .i64, .int .i32], [.bool], g_ref21_has⟩), (35, ⟨[.cat [.int .i64, .int .i64, .int .i64, .int .u32, .int .u32, .int .u64, .int .u64, .int .i64, .int .i64, .sl (.int .u8), .sl (.int .u8), .sl (.int .u8)], .bool], [.sl (.int .u8)], g_ref21_form⟩), (31, ⟨[.sls (.int .u8)], [.sl (.int .u8)], g_ref01_Join⟩)] [(28, .u64, 2)]
noncomputable def p_ref21_Words_H : Hints := [(3000000, [2])]
noncomputable def p_ref21_Words_c : Code := (Go.Proofs.Try.f21).body.getD .skip
abbrev p_ref21_Words_ks : List Kd := [.cat [.int .i64, .int .i64, .int .i64, .int .u32, .int .u32, .int .u64, .int .u64, .int .i64, .int .i64, .sl (.int .u8), .sl (.int .u8), .sl (.int .u8)]]
abbrev p_ref21_Words_rs : List Kd := [.sl (.int .u8)]
noncomputable def p_ref21_Words (N : Nat) (x : (Int × Int × Int × Int × Int × Int × Int × Int × Int × List Int × List Int × List Int × Unit) × Unit) : Option (List Int) :=
  (g_ref21_Check ((x.1.1, x.1.2.1, x.1.2.2.1, x.1.2.2.2.1, x.1.2.2.2.2.1, x.1.2.2.2.2.2.1, x.1.2.2.2.2.2.2.1, x.1.2.2.2.2.2.2.2.1, x.1.2.2.2.2.2.2.2.2.1, x.1.2.2.2.2.2.2.2.2.2.1, x.1.2.2.2.2.2.2.2.2.2.2.1, x.1.2.2.2.2.2.2.2.2.2.2.2.1, ()), ())).bind fun r1 => (
  if (r1 ≠ (0:Int)) then
    some []
  else
    (g_ref21_has (x.1.1, (115:Int), ())).bind fun r2 => (
    if (¬ (r2 = true)) then
      some []
    else
      if 0 < 14 then (
      (g_ref21_form ((x.1.1, x.1.2.1, x.1.2.2.1, x.1.2.2.2.1, x.1.2.2.2.2.1, x.1.2.2.2.2.2.1, x.1.2.2.2.2.2.2.1, x.1.2.2.2.2.2.2.2.1, x.1.2.2.2.2.2.2.2.2.1, x.1.2.2.2.2.2.2.2.2.2.1, x.1.2.2.2.2.2.2.2.2.2.2.1, x.1.2.2.2.2.2.2.2.2.2.2.2.1, ()), false, ())).bind fun r3 => (
      (g_ref01_Join ([(List.set (List.set (List.set (List.set (List.set (List.set (List.set (List.set (List.set (List.set (List.set (List.set (List.set (List.set (List.replicate 14 0) 0 (108:Int)) 1 (105:Int)) 2 (118:Int)) 3 (101:Int)) 4 (114:Int)) 5 (121:Int)) 6 (32:Int)) 7 (97:Int)) 8 (116:Int)) 9 (116:Int)) 10 (101:Int)) 11 (115:Int)) 12 (116:Int)) 13 (115:Int)), r3], ())).bind fun r4 => (
      some r4))) else none))
theorem p_ref21_Words_eq (N : Nat) (x : Ds [.cat [.int .i64, .int .i64, .int .i64, .int .u32, .int .u32, .int .u64, .int .u64, .int .i64, .int .i64, .sl (.int .u8), .sl (.int .u8), .sl (.int .u8)]]) : funL p_ref21_Words_E p_ref21_Words_H (LT.nil) N Go.Proofs.Try.f21 p_ref21_Words_c [.cat [.int .i64, .int .i64, .int .i64, .int .u32, .int .u32, .int .u64, .int .u64, .int .i64, .int .i64, .sl (.int .u8), .sl (.int .u8), .sl (.int .u8)]] [.sl (.int .u8)] x = p_ref21_Words N x := by kernel_rfl
theorem p_ref21_Words_Eok (he_ref21_Check : SigOk Go.Proofs.Try.prog 26 ⟨[.cat [.int .i64, .int .i64, .int .i64, .int .u32, .int .u32, .int .u64, .int .u64, .int .i64, .int .i64, .sl (.int .u8), .sl (.int .u8), .sl (.int .u8)]], [.int .i64], g_ref21_Check⟩) (he_ref21_has : SigOk Go.Proofs.Try.prog 38 ⟨[.int .i64, .int .i32], [.bool], g_ref21_has⟩) (he_ref21_form : SigOk Go.Proofs.Try.prog 35 ⟨[.cat [.int .i64, .int .i64, .int .i64, .int .u32, .int .u32, .int .u64, .int .u64, .int .i64, .int .i64, .sl (.int .u8), .sl (.int .u8), .sl (.int .u8)], .bool], [.sl (.int .u8)], g_ref21_form⟩) (he_ref01_Join : SigOk Go.Proofs.Try.prog 31 ⟨[.sls (.int .u8)], [.sl (.int .u8)], g_ref01_Join⟩) : p_ref21_Words_E.Ok Go.Proofs.Try.prog := AE.ofQ_ok (all_cons ty3_ok (all_cons ty5_ok (all_cons ty29_ok (all_cons ty31_ok (all_cons ty42_ok all_nil))))) (all_cons ⟨he_ref21_Check, enters_ref21_Check⟩ (all_cons ⟨he_ref21_has, enters_ref21_has⟩ (all_cons ⟨he_ref21_form, enters_ref21_form⟩ (all_cons ⟨he_ref01_Join, enters_ref01_Join⟩ all_nil)))) (all_cons steq28_ok all_nil)
theorem p_ref21_Words_ok (he_ref21_Check : SigOk Go.Proofs.Try.prog 26 ⟨[.cat [.int .i64, .int .i64, .int .i64, .int .u32, .int .u32, .int .u64, .int .u64, .int .i64, .int .i64, .sl (.int .u8), .sl (.int .u8), .sl (.int .u8)]], [.int .i64], g_ref21_Check⟩) (he_ref21_has : SigOk Go.Proofs.Try.prog 38 ⟨[.int .i64, .int .i32], [.bool], g_ref21_has⟩) (he_ref21_form : SigOk Go.Proofs.Try.prog 35 ⟨[.cat [.int .i64, .int .i64, .int .i64, .int .u32, .int .u32, .int .u64, .int .u64, .int .i64, .int .i64, .sl (.int .u8), .sl (.int .u8), .sl (.int .u8)], .bool], [.sl (.int .u8)], g_ref21_form⟩) (he_ref01_Join : SigOk Go.Proofs.Try.prog 31 ⟨[.sls (.int .u8)], [.sl (.int .u8)], g_ref01_Join⟩) {g : Ds [.cat [.int .i64, .int .i64, .int .i64, .int .u32, .int .u32, .int .u64, .int .u64, .int .i64, .int .i64, .sl (.int .u8), .sl (.int .u8), .sl (.int .u8)]] → Option (Rs [.sl (.int .u8)])} (hg : ∀ x r, g x = some r → ∃ N, p_ref21_Words N x = some r) : SigOk Go.Proofs.Try.prog 21 ⟨[.cat [.int .i64, .int .i64, .int .i64, .int .u32, .int .u32, .int .u64, .int .u64, .int .i64, .int .i64, .sl (.int .u8), .sl (.int .u8), .sl (.int .u8)]], [.sl (.int .u8)], g⟩ :=
  fun_of (E := p_ref21_Words_E) (H := p_ref21_Words_H) (L := fun N => LT.nil) (c := p_ref21_Words_c) (ks := p_ref21_Words_ks) (rs := p_ref21_Words_rs) (F := p_ref21_Words) (p_ref21_Words_Eok he_ref21_Check he_ref21_has he_ref21_form he_ref01_Join) mix Go.Proofs.Try.func21 (by kernel_rfl) (fun N => OkAll.nil) p_ref21_Words_eq hg

/-! livery/liveryref21.Missing -/
noncomputable def p_ref21_Missing_E : AE := AE.ofQ [(3, ty3), (4, ty4), (29, ty29), (31, ty31), (43, ty43)] [(26, ⟨[.cat [.int .i64, .int .i64, .int .i64, .int .u32, .int .u32, .int .u64, .int .u64, .int .i64, .int .i64, .sl (.int .u8), .sl (.int .u8), .sl (.int .u8)]], [.int .i64], g_ref21_Check⟩), (41, ⟨[.sl (.int .u8)], [.sl .bool], g_ref01_Bits⟩)] [(28, .u64, 2)]
noncomputable def p_ref21_Missing_H : Hints := [(5, [1, 3, 17, 18]), (2000000, [1]), (2000001, [1, 3, 17, 18]), (3000000, [2])]
noncomputable def p_ref21_Missing_c : Code := (Go.Proofs.Try.f23).body.getD .skip
noncomputable def p_ref21_Missing_l5_S : Shape where
  h := { tmps := [.any, .sc (.ptr 0 0 false), .any, .sc (.vec 1 none 1), .any, .any, .any, .any, .any, .any, .any, .any, .any, .any, .any, .any, .any, .sc (.int .i64), .sc (.int .i64), .any, .any, .any, .any, .any, .any, .any, .any, .any, .any, .any], mem := [.live [.one (.int .i64), .one (.int .i64), .one (.int .i64), .one (.int .u32), .one (.int .u32), .one (.int .u64), .one (.int .u64), .one (.int .i64), .one (.int .i64), .one (.fr (.int .u8)), .one (.fr (.int .u8)), .one (.fr (.int .u8))] (.own), .live [.xs .bool none] (.own)] }
  ks := [.nat, .int, .int, .int, .int, .int, .int, .int, .int, .int, .int, .int, .xs, .xs, .xs, .nat, .xs]
  st := fun x => { tmps := [.one .any, .one (.sc (.ptr 0 0 none)), .one .any, .one (.sc (.vec 1 x.1 1)), .one .any, .one .any, .one .any, .one .any, .one .any, .one .any, .one .any, .one .any, .one .any, .one .any, .one .any, .one .any, .one .any, .one (.sc (.int .i64 x.2.1)), .one (.sc (.int .i64 x.2.2.1)), .one .any, .one .any, .one .any, .one .any, .one .any, .one .any, .one .any, .one .any, .one .any, .one .any, .one .any], mem := [.live { segs := [.one (.int .i64 x.2.2.2.1), .one (.int .i64 x.2.2.2.2.1), .one (.int .i64 x.2.2.2.2.2.1), .one (.int .u32 x.2.2.2.2.2.2.1), .one (.int .u32 x.2.2.2.2.2.2.2.1), .one (.int .u64 x.2.2.2.2.2.2.2.2.1), .one (.int .u64 x.2.2.2.2.2.2.2.2.2.1), .one (.int .i64 x.2.2.2.2.2.2.2.2.2.2.1), .one (.int .i64 x.2.2.2.2.2.2.2.2.2.2.2.1), .one (.fr (.xs (.int .u8) x.2.2.2.2.2.2.2.2.2.2.2.2.1)), .one (.fr (.xs (.int .u8) x.2.2.2.2.2.2.2.2.2.2.2.2.2.1)), .one (.fr (.xs (.int .u8) x.2.2.2.2.2.2.2.2.2.2.2.2.2.2.1))], own := .own }, .live { segs := [.xs .bool x.2.2.2.2.2.2.2.2.2.2.2.2.2.2.2.1 x.2.2.2.2.2.2.2.2.2.2.2.2.2.2.2.2.1], own := .own }] }
noncomputable def p_ref21_Missing_l5_F (N : Nat) (β : Type) (x : (Nat × Int × Int × Int × Int × Int × Int × Int × Int × Int × Int × Int × List Int × List Int × List Int × Nat × List Int × Unit)) (kn : (Nat × Int × Int × Int × Int × Int × Int × Int × Int × Int × Int × Int × List Int × List Int × List Int × Nat × List Int × Unit) → Option β) (ke : ((Int × Unit) ⊕ (Int × Int × Int × Int × Int × Int × Int × Int × Int × List Int × List Int × List Int × Unit)) → Option β) : Option β :=
  if (x.2.2.1 < x.2.1) then
    if 0 ≤ x.2.2.1 then (
    if x.2.2.1 < ((x.1 : Nat) : Int) then (
    if (x.2.2.1.toNat) < x.2.2.2.2.2.2.2.2.2.2.2.2.2.2.2.1 then (
    if (¬ ((List.getD x.2.2.2.2.2.2.2.2.2.2.2.2.2.2.2.2.1 (x.2.2.1.toNat) 0) ≠ 0)) then
      ke (.inl (x.2.2.1, ()))
    else
      kn (x.1, x.2.1, (IntKind.i64.wrap (x.2.2.1 + (1:Int))), x.2.2.2.1, x.2.2.2.2.1, x.2.2.2.2.2.1, x.2.2.2.2.2.2.1, x.2.2.2.2.2.2.2.1, x.2.2.2.2.2.2.2.2.1, x.2.2.2.2.2.2.2.2.2.1, x.2.2.2.2.2.2.2.2.2.2.1, x.2.2.2.2.2.2.2.2.2.2.2.1, x.2.2.2.2.2.2.2.2.2.2.2.2.1, x.2.2.2.2.2.2.2.2.2.2.2.2.2.1, x.2.2.2.2.2.2.2.2.2.2.2.2.2.2.1, x.2.2.2.2.2.2.2.2.2.2.2.2.2.2.2.1, x.2.2.2.2.2.2.2.2.2.2.2.2.2.2.2.2.1, ())) else none) else none) else none
  else
    ke (.inr (x.2.2.2.1, x.2.2.2.2.1, x.2.2.2.2.2.1, x.2.2.2.2.2.2.1, x.2.2.2.2.2.2.2.1, x.2.2.2.2.2.2.2.2.1, x.2.2.2.2.2.2.2.2.2.1, x.2.2.2.2.2.2.2.2.2.2.1, x.2.2.2.2.2.2.2.2.2.2.2.1, x.2.2.2.2.2.2.2.2.2.2.2.2.1, x.2.2.2.2.2.2.2.2.2.2.2.2.2.1, x.2.2.2.2.2.2.2.2.2.2.2.2.2.2.1, ()))
noncomputable def p_ref21_Missing_l5_go : Go' ((Int × Unit) ⊕ (Int × Int × Int × Int × Int × Int × Int × Int × Int × List Int × List Int × List Int × Unit)) := fun y K => match y with
  | .inl y => K .ret { tmps := [.one .any, .one .any, .one (.sc (.int .i64 y.1)), .one .any, .one .any, .one .any, .one .any, .one .any, .one .any, .one .any, .one .any, .one .any, .one .any, .one .any, .one .any, .one .any, .one .any, .one .any, .one .any, .one .any, .one .any, .one .any, .one .any, .one .any, .one .any, .one .any, .one .any, .one .any, .one .any, .one .any], mem := [] }
  | .inr y => K (.exit 0) { tmps := [.one .any, .one (.sc (.ptr 0 0 none)), .one .any, .one .any, .one .any, .one .any, .one .any, .one .any, .one .any, .one .any, .one .any, .one .any, .one .any, .one .any, .one .any, .one .any, .one .any, .one .any, .one .any, .one .any, .one .any, .one .any, .one .any, .one .any, .one .any, .one .any, .one .any, .one .any, .one .any, .one .any], mem := [.live { segs := [.one (.int .i64 y.1), .one (.int .i64 y.2.1), .one (.int .i64 y.2.2.1), .one (.int .u32 y.2.2.2.1), .one (.int .u32 y.2.2.2.2.1), .one (.int .u64 y.2.2.2.2.2.1), .one (.int .u64 y.2.2.2.2.2.2.1), .one (.int .i64 y.2.2.2.2.2.2.2.1), .one (.int .i64 y.2.2.2.2.2.2.2.2.1), .one (.fr (.xs (.int .u8) y.2.2.2.2.2.2.2.2.2.1)), .one (.fr (.xs (.int .u8) y.2.2.2.2.2.2.2.2.2.2.1)), .one (.fr (.xs (.int .u8) y.2.2.2.2.2.2.2.2.2.2.2.1))], own := .own }] }
noncomputable def p_ref21_Missing_l5_L (N : Nat) : LT := upd (LT.nil) 5 (loopE p_ref21_Missing_l5_S N (p_ref21_Missing_l5_F N) p_ref21_Missing_l5_go)
theorem p_ref21_Missing_l5_ok (N : Nat) : OkAll p_ref21_Missing_E p_ref21_Missing_H N (p_ref21_Missing_l5_L N) (subs p_ref21_Missing_c) :=
  addLoop (c := theLoop 5 p_ref21_Missing_c) (OkAll.nil) (by kernel_rfl) (fun x => by kernel_rfl) (fun β x kn ke => by kernel_rfl)
abbrev p_ref21_Missing_ks : List Kd := [.cat [.int .i64, .int .i64, .int .i64, .int .u32, .int .u32, .int .u64, .int .u64, .int .i64, .int .i64, .sl (.int .u8), .sl (.int .u8), .sl (.int .u8)]]
abbrev p_ref21_Missing_rs : List Kd := [.int .i64]
noncomputable def p_ref21_Missing (N : Nat) (x : (Int × Int × Int × Int × Int × Int × Int × Int × Int × List Int × List Int × List Int × Unit) × Unit) : Option (Int) :=
  if (x.1.1 ≠ (4:Int)) then
    some (-1:Int)
  else
    (g_ref21_Check ((x.1.1, x.1.2.1, x.1.2.2.1, x.1.2.2.2.1, x.1.2.2.2.2.1, x.1.2.2.2.2.2.1, x.1.2.2.2.2.2.2.1, x.1.2.2.2.2.2.2.2.1, x.1.2.2.2.2.2.2.2.2.1, x.1.2.2.2.2.2.2.2.2.2.1, x.1.2.2.2.2.2.2.2.2.2.2.1, x.1.2.2.2.2.2.2.2.2.2.2.2.1, ()), ())).bind fun r1 => (
    if (r1 ≠ (0:Int)) then
      some (-1:Int)
    else
      (g_ref01_Bits (x.1.2.2.2.2.2.2.2.2.2.1, ())).bind fun r2 => (
      iter (p_ref21_Missing_l5_F N) N ((List.length r2), x.1.2.2.2.2.2.2.2.2.1, (0:Int), x.1.1, x.1.2.1, x.1.2.2.1, x.1.2.2.2.1, x.1.2.2.2.2.1, x.1.2.2.2.2.2.1, x.1.2.2.2.2.2.2.1, x.1.2.2.2.2.2.2.2.1, x.1.2.2.2.2.2.2.2.2.1, x.1.2.2.2.2.2.2.2.2.2.1, x.1.2.2.2.2.2.2.2.2.2.2.1, x.1.2.2.2.2.2.2.2.2.2.2.2.1, (List.length r2), r2, ()) fun y => (match y with
      | .inl y3 => (
        some y3.1)
      | .inr y4 => (
        some y4.2.2.2.2.2.2.2.2.1))))
theorem p_ref21_Missing_eq (N : Nat) (x : Ds [.cat [.int .i64, .int .i64, .int .i64, .int .u32, .int .u32, .int .u64, .int .u64, .int .i64, .int .i64, .sl (.int .u8), .sl (.int .u8), .sl (.int .u8)]]) : funL p_ref21_Missing_E p_ref21_Missing_H (p_ref21_Missing_l5_L N) N Go.Proofs.Try.f23 p_ref21_Missing_c [.cat [.int .i64, .int .i64, .int .i64, .int .u32, .int .u32, .int .u64, .int .u64, .int .i64, .int .i64, .sl (.int .u8), .sl (.int .u8), .sl (.int .u8)]] [.int .i64] x = p_ref21_Missing N x := by kernel_rfl
theorem p_ref21_Missing_Eok (he_ref21_Check : SigOk Go.Proofs.Try.prog 26 ⟨[.cat [.int .i64, .int .i64, .int .i64, .int .u32, .int .u32, .int .u64, .int .u64, .int .i64, .int .i64, .sl (.int .u8), .sl (.int .u8), .sl (.int .u8)]], [.int .i64], g_ref21_Check⟩) (he_ref01_Bits : SigOk Go.Proofs.Try.prog 41 ⟨[.sl (.int .u8)], [.sl .bool], g_ref01_Bits⟩) : p_ref21_Missing_E.Ok Go.Proofs.Try.prog := AE.ofQ_ok (all_cons ty3_ok (all_cons ty4_ok (all_cons ty29_ok (all_cons ty31_ok (all_cons ty43_ok all_nil))))) (all_cons ⟨he_ref21_Check, enters_ref21_Check⟩ (all_cons ⟨he_ref01_Bits, enters_ref01_Bits⟩ all_nil)) (all_cons steq28_ok all_nil)
theorem p_ref21_Missing_ok (he_ref21_Check : SigOk Go.Proofs.Try.prog 26 ⟨[.cat [.int .i64, .int .i64, .int .i64, .int .u32, .int .u32, .int .u64, .int .u64, .int .i64, .int .i64, .sl (.int .u8), .sl (.int .u8), .sl (.int .u8)]], [.int .i64], g_ref21_Check⟩) (he_ref01_Bits : SigOk Go.Proofs.Try.prog 41 ⟨[.sl (.int .u8)], [.sl .bool], g_ref01_Bits⟩) {g : Ds [.cat [.int .i64, .int .i64, .int .i64, .int .u32, .int .u32, .int .u64, .int .u64, .int .i64, .int .i64, .sl (.int .u8), .sl (.int .u8), .sl (.int .u8)]] → Option (Rs [.int .i64])} (hg : ∀ x r, g x = some r → ∃ N, p_ref21_Missing N x = some r) : SigOk Go.Proofs.Try.prog 23 ⟨[.cat [.int .i64, .int .i64, .int .i64, .int .u32, .int .u32, .int .u64, .int .u64, .int .i64, .int .i64, .sl (.int .u8), .sl (.int .u8), .sl (.int .u8)]], [.int .i64], g⟩ :=
  fun_of (E := p_ref21_Missing_E) (H := p_ref21_Missing_H) (L := fun N => p_ref21_Missing_l5_L N) (c := p_ref21_Missing_c) (ks := p_ref21_Missing_ks) (rs := p_ref21_Missing_rs) (F := p_ref21_Missing) (p_ref21_Missing_Eok he_ref21_Check he_ref01_Bits) mix Go.Proofs.Try.func23 (by kernel_rfl) (fun N => p_ref21_Missing_l5_ok N) p_ref21_Missing_eq hg

/-! livery/liverylaw21.MsgPuts -/
noncomputable def p_law21_MsgPuts_E : AE := AE.ofQ [(31, ty31)] [(11, ⟨[], [.bool], g_law21_live⟩), (16, ⟨[.cat [.int .i64, .int .i64, .int .i64, .int .u32, .int .u32, .int .u64, .int .u64, .int .i64, .int .i64, .sl (.int .u8), .sl (.int .u8), .sl (.int .u8)]], [.bool], g_law21_big⟩), (17, ⟨[.cat [.int .i64, .int .i64, .int .i64, .int .u32, .int .u32, .int .u64, .int .u64, .int .i64, .int .i64, .sl (.int .u8), .sl (.int .u8), .sl (.int .u8)]], [.sl (.int .u8), .int .i64], g_msg_Put⟩), (18, ⟨[.cat [.int .i64, .int .i64, .int .i64, .int .u32, .int .u32, .int .u64, .int .u64, .int .i64, .int .i64, .sl (.int .u8), .sl (.int .u8), .sl (.int .u8)]], [.sl (.int .u8), .int .i64], g_ref21_Put⟩), (19, ⟨[.sl (.int .u8), .sl (.int .u8)], [.bool], g_ref01_Equal⟩), (20, ⟨[.cat [.int .i64, .int .i64, .int .i64, .int .u32, .int .u32, .int .u64, .int .u64, .int .i64, .int .i64, .sl (.int .u8), .sl (.int .u8), .sl (.int .u8)]], [.sl (.int .u8)], g_msg_Words⟩), (21, ⟨[.cat [.int .i64, .int .i64, .int .i64, .int .u32, .int .u32, .int .u64, .int .u64, .int .i64, .int .i64, .sl (.int .u8), .sl (.int .u8), .sl (.int .u8)]], [.sl (.int .u8)], g_ref21_Words⟩), (22, ⟨[.cat [.int .i64, .int .i64, .int .i64, .int .u32, .int .u32, .int .u64, .int .u64, .int .i64, .int .i64, .sl (.int .u8), .sl (.int .u8), .sl (.int .u8)]], [.int .i64], g_msg_Missing⟩), (23, ⟨[.cat [.int .i64, .int .i64, .int .i64, .int .u32, .int .u32, .int .u64, .int .u64, .int .i64, .int .i64, .sl (.int .u8), .sl (.int .u8), .sl (.int .u8)]], [.int .i64], g_ref21_Missing⟩)] [(28, .u64, 2)]
noncomputable def p_law21_MsgPuts_H : Hints := [(3000000, [2])]
noncomputable def p_law21_MsgPuts_c : Code := (Go.Proofs.Try.f4).body.getD .skip
abbrev p_law21_MsgPuts_ks : List Kd := [.cat [.int .i64, .int .i64, .int .i64, .int .u32, .int .u32, .int .u64, .int .u64, .int .i64, .int .i64, .sl (.int .u8), .sl (.int .u8), .sl (.int .u8)]]
abbrev p_law21_MsgPuts_rs : List Kd := [.bool]
noncomputable def p_law21_MsgPuts (N : Nat) (x : (Int × Int × Int × Int × Int × Int × Int × Int × Int × List Int × List Int × List Int × Unit) × Unit) : Option (Bool) :=
  (g_law21_live (())).bind fun r1 => (
  if (¬ (r1 = true)) then
    (g_law21_live (())).bind fun r2 => (
    some (decide (r2 = true)))
  else
    (g_law21_big ((x.1.1, x.1.2.1, x.1.2.2.1, x.1.2.2.2.1, x.1.2.2.2.2.1, x.1.2.2.2.2.2.1, x.1.2.2.2.2.2.2.1, x.1.2.2.2.2.2.2.2.1, x.1.2.2.2.2.2.2.2.2.1, x.1.2.2.2.2.2.2.2.2.2.1, x.1.2.2.2.2.2.2.2.2.2.2.1, x.1.2.2.2.2.2.2.2.2.2.2.2.1, ()), ())).bind fun r3 => (
    if (r3 = true) then
      (g_law21_live (())).bind fun r4 => (
      some (decide (r4 = true)))
    else
      (g_msg_Put ((x.1.1, x.1.2.1, x.1.2.2.1, x.1.2.2.2.1, x.1.2.2.2.2.1, x.1.2.2.2.2.2.1, x.1.2.2.2.2.2.2.1, x.1.2.2.2.2.2.2.2.1, x.1.2.2.2.2.2.2.2.2.1, x.1.2.2.2.2.2.2.2.2.2.1, x.1.2.2.2.2.2.2.2.2.2.2.1, x.1.2.2.2.2.2.2.2.2.2.2.2.1, ()), ())).bind fun r5 => (
      (g_ref21_Put ((x.1.1, x.1.2.1, x.1.2.2.1, x.1.2.2.2.1, x.1.2.2.2.2.1, x.1.2.2.2.2.2.1, x.1.2.2.2.2.2.2.1, x.1.2.2.2.2.2.2.2.1, x.1.2.2.2.2.2.2.2.2.1, x.1.2.2.2.2.2.2.2.2.2.1, x.1.2.2.2.2.2.2.2.2.2.2.1, x.1.2.2.2.2.2.2.2.2.2.2.2.1, ()), ())).bind fun r6 => (
      (g_ref01_Equal (r5.1, r6.1, ())).bind fun r7 => (
      if (r7 = true) then
        if (r5.2 = r6.2) then
          (g_msg_Words ((x.1.1, x.1.2.1, x.1.2.2.1, x.1.2.2.2.1, x.1.2.2.2.2.1, x.1.2.2.2.2.2.1, x.1.2.2.2.2.2.2.1, x.1.2.2.2.2.2.2.2.1, x.1.2.2.2.2.2.2.2.2.1, x.1.2.2.2.2.2.2.2.2.2.1, x.1.2.2.2.2.2.2.2.2.2.2.1, x.1.2.2.2.2.2.2.2.2.2.2.2.1, ()), ())).bind fun r8 => (
          (g_ref21_Words ((x.1.1, x.1.2.1, x.1.2.2.1, x.1.2.2.2.1, x.1.2.2.2.2.1, x.1.2.2.2.2.2.1, x.1.2.2.2.2.2.2.1, x.1.2.2.2.2.2.2.2.1, x.1.2.2.2.2.2.2.2.2.1, x.1.2.2.2.2.2.2.2.2.2.1, x.1.2.2.2.2.2.2.2.2.2.2.1, x.1.2.2.2.2.2.2.2.2.2.2.2.1, ()), ())).bind fun r9 => (
          (g_ref01_Equal (r8, r9, ())).bind fun r10 => (
          if (r10 = true) then
            (g_msg_Missing ((x.1.1, x.1.2.1, x.1.2.2.1, x.1.2.2.2.1, x.1.2.2.2.2.1, x.1.2.2.2.2.2.1, x.1.2.2.2.2.2.2.1, x.1.2.2.2.2.2.2.2.1, x.1.2.2.2.2.2.2.2.2.1, x.1.2.2.2.2.2.2.2.2.2.1, x.1.2.2.2.2.2.2.2.2.2.2.1, x.1.2.2.2.2.2.2.2.2.2.2.2.1, ()), ())).bind fun r11 => (
            (g_ref21_Missing ((x.1.1, x.1.2.1, x.1.2.2.1, x.1.2.2.2.1, x.1.2.2.2.2.1, x.1.2.2.2.2.2.1, x.1.2.2.2.2.2.2.1, x.1.2.2.2.2.2.2.2.1, x.1.2.2.2.2.2.2.2.2.1, x.1.2.2.2.2.2.2.2.2.2.1, x.1.2.2.2.2.2.2.2.2.2.2.1, x.1.2.2.2.2.2.2.2.2.2.2.2.1, ()), ())).bind fun r12 => (
            some (decide (r11 = r12))))
          else
            some false)))
        else
          some false
      else
        some false)))))
theorem p_law21_MsgPuts_eq (N : Nat) (x : Ds [.cat [.int .i64, .int .i64, .int .i64, .int .u32, .int .u32, .int .u64, .int .u64, .int .i64, .int .i64, .sl (.int .u8), .sl (.int .u8), .sl (.int .u8)]]) : funL p_law21_MsgPuts_E p_law21_MsgPuts_H (LT.nil) N Go.Proofs.Try.f4 p_law21_MsgPuts_c [.cat [.int .i64, .int .i64, .int .i64, .int .u32, .int .u32, .int .u64, .int .u64, .int .i64, .int .i64, .sl (.int .u8), .sl (.int .u8), .sl (.int .u8)]] [.bool] x = p_law21_MsgPuts N x := by kernel_rfl
theorem p_law21_MsgPuts_Eok (he_law21_live : SigOk Go.Proofs.Try.prog 11 ⟨[], [.bool], g_law21_live⟩) (he_law21_big : SigOk Go.Proofs.Try.prog 16 ⟨[.cat [.int .i64, .int .i64, .int .i64, .int .u32, .int .u32, .int .u64, .int .u64, .int .i64, .int .i64, .sl (.int .u8), .sl (.int .u8), .sl (.int .u8)]], [.bool], g_law21_big⟩) (he_msg_Put : SigOk Go.Proofs.Try.prog 17 ⟨[.cat [.int .i64, .int .i64, .int .i64, .int .u32, .int .u32, .int .u64, .int .u64, .int .i64, .int .i64, .sl (.int .u8), .sl (.int .u8), .sl (.int .u8)]], [.sl (.int .u8), .int .i64], g_msg_Put⟩) (he_ref21_Put : SigOk Go.Proofs.Try.prog 18 ⟨[.cat [.int .i64, .int .i64, .int .i64, .int .u32, .int .u32, .int .u64, .int .u64, .int .i64, .int .i64, .sl (.int .u8), .sl (.int .u8), .sl (.int .u8)]], [.sl (.int .u8), .int .i64], g_ref21_Put⟩) (he_ref01_Equal : SigOk Go.Proofs.Try.prog 19 ⟨[.sl (.int .u8), .sl (.int .u8)], [.bool], g_ref01_Equal⟩) (he_msg_Words : SigOk Go.Proofs.Try.prog 20 ⟨[.cat [.int .i64, .int .i64, .int .i64, .int .u32, .int .u32, .int .u64, .int .u64, .int .i64, .int .i64, .sl (.int .u8), .sl (.int .u8), .sl (.int .u8)]], [.sl (.int .u8)], g_msg_Words⟩) (he_ref21_Words : SigOk Go.Proofs.Try.prog 21 ⟨[.cat [.int .i64, .int .i64, .int .i64, .int .u32, .int .u32, .int .u64, .int .u64, .int .i64, .int .i64, .sl (.int .u8), .sl (.int .u8), .sl (.int .u8)]], [.sl (.int .u8)], g_ref21_Words⟩) (he_msg_Missing : SigOk Go.Proofs.Try.prog 22 ⟨[.cat [.int .i64, .int .i64, .int .i64, .int .u32, .int .u32, .int .u64, .int .u64, .int .i64, .int .i64, .sl (.int .u8), .sl (.int .u8), .sl (.int .u8)]], [.int .i64], g_msg_Missing⟩) (he_ref21_Missing : SigOk Go.Proofs.Try.prog 23 ⟨[.cat [.int .i64, .int .i64, .int .i64, .int .u32, .int .u32, .int .u64, .int .u64, .int .i64, .int .i64, .sl (.int .u8), .sl (.int .u8), .sl (.int .u8)]], [.int .i64], g_ref21_Missing⟩) : p_law21_MsgPuts_E.Ok Go.Proofs.Try.prog := AE.ofQ_ok (all_cons ty31_ok all_nil) (all_cons ⟨he_law21_live, enters_law21_live⟩ (all_cons ⟨he_law21_big, enters_law21_big⟩ (all_cons ⟨he_msg_Put, enters_msg_Put⟩ (all_cons ⟨he_ref21_Put, enters_ref21_Put⟩ (all_cons ⟨he_ref01_Equal, enters_ref01_Equal⟩ (all_cons ⟨he_msg_Words, enters_msg_Words⟩ (all_cons ⟨he_ref21_Words, enters_ref21_Words⟩ (all_cons ⟨he_msg_Missing, enters_msg_Missing⟩ (all_cons ⟨he_ref21_Missing, enters_ref21_Missing⟩ all_nil))))))))) (all_cons steq28_ok all_nil)
theorem p_law21_MsgPuts_ok (he_law21_live : SigOk Go.Proofs.Try.prog 11 ⟨[], [.bool], g_law21_live⟩) (he_law21_big : SigOk Go.Proofs.Try.prog 16 ⟨[.cat [.int .i64, .int .i64, .int .i64, .int .u32, .int .u32, .int .u64, .int .u64, .int .i64, .int .i64, .sl (.int .u8), .sl (.int .u8), .sl (.int .u8)]], [.bool], g_law21_big⟩) (he_msg_Put : SigOk Go.Proofs.Try.prog 17 ⟨[.cat [.int .i64, .int .i64, .int .i64, .int .u32, .int .u32, .int .u64, .int .u64, .int .i64, .int .i64, .sl (.int .u8), .sl (.int .u8), .sl (.int .u8)]], [.sl (.int .u8), .int .i64], g_msg_Put⟩) (he_ref21_Put : SigOk Go.Proofs.Try.prog 18 ⟨[.cat [.int .i64, .int .i64, .int .i64, .int .u32, .int .u32, .int .u64, .int .u64, .int .i64, .int .i64, .sl (.int .u8), .sl (.int .u8), .sl (.int .u8)]], [.sl (.int .u8), .int .i64], g_ref21_Put⟩) (he_ref01_Equal : SigOk Go.Proofs.Try.prog 19 ⟨[.sl (.int .u8), .sl (.int .u8)], [.bool], g_ref01_Equal⟩) (he_msg_Words : SigOk Go.Proofs.Try.prog 20 ⟨[.cat [.int .i64, .int .i64, .int .i64, .int .u32, .int .u32, .int .u64, .int .u64, .int .i64, .int .i64, .sl (.int .u8), .sl (.int .u8), .sl (.int .u8)]], [.sl (.int .u8)], g_msg_Words⟩) (he_ref21_Words : SigOk Go.Proofs.Try.prog 21 ⟨[.cat [.int .i64, .int .i64, .int .i64, .int .u32, .int .u32, .int .u64, .int .u64, .int .i64, .int .i64, .sl (.int .u8), .sl (.int .u8), .sl (.int .u8)]], [.sl (.int .u8)], g_ref21_Words⟩) (he_msg_Missing : SigOk Go.Proofs.Try.prog 22 ⟨[.cat [.int .i64, .int .i64, .int .i64, .int .u32, .int .u32, .int .u64, .int .u64, .int .i64, .int .i64, .sl (.int .u8), .sl (.int .u8), .sl (.int .u8)]], [.int .i64], g_msg_Missing⟩) (he_ref21_Missing : SigOk Go.Proofs.Try.prog 23 ⟨[.cat [.int .i64, .int .i64, .int .i64, .int .u32, .int .u32, .int .u64, .int .u64, .int .i64, .int .i64, .sl (.int .u8), .sl (.int .u8), .sl (.int .u8)]], [.int .i64], g_ref21_Missing⟩) {g : Ds [.cat [.int .i64, .int .i64, .int .i64, .int .u32, .int .u32, .int .u64, .int .u64, .int .i64, .int .i64, .sl (.int .u8), .sl (.int .u8), .sl (.int .u8)]] → Option (Rs [.bool])} (hg : ∀ x r, g x = some r → ∃ N, p_law21_MsgPuts N x = some r) : SigOk Go.Proofs.Try.prog 4 ⟨[.cat [.int .i64, .int .i64, .int .i64, .int .u32, .int .u32, .int .u64, .int .u64, .int .i64, .int .i64, .sl (.int .u8), .sl (.int .u8), .sl (.int .u8)]], [.bool], g⟩ :=
  fun_of (E := p_law21_MsgPuts_E) (H := p_law21_MsgPuts_H) (L := fun N => LT.nil) (c := p_law21_MsgPuts_c) (ks := p_law21_MsgPuts_ks) (rs := p_law21_MsgPuts_rs) (F := p_law21_MsgPuts) (p_law21_MsgPuts_Eok he_law21_live he_law21_big he_msg_Put he_ref21_Put he_ref01_Equal he_msg_Words he_ref21_Words he_msg_Missing he_ref21_Missing) mix Go.Proofs.Try.func4 (by kernel_rfl) (fun N => OkAll.nil) p_law21_MsgPuts_eq hg

/-! livery/liverylaw21.MsgChecks -/
noncomputable def p_law21_MsgChecks_E : AE := AE.ofQ [(4, ty4), (5, ty5), (29, ty29), (31, ty31), (42, ty42)] [(11, ⟨[], [.bool], g_law21_live⟩), (16, ⟨[.cat [.int .i64, .int .i64, .int .i64, .int .u32, .int .u32, .int .u64, .int .u64, .int .i64, .int .i64, .sl (.int .u8), .sl (.int .u8), .sl (.int .u8)]], [.bool], g_law21_big⟩), (24, ⟨[.cat [.int .i64, .int .i64, .int .i64, .int .u32, .int .u32, .int .u64, .int .u64, .int .i64, .int .i64, .sl (.int .u8), .sl (.int .u8), .sl (.int .u8)]], [.cat [.int .i64, .int .i64, .int .i64, .int .u32, .int .u32, .int .u64, .int .u64, .int .i64, .int .i64, .sl (.int .u8), .sl (.int .u8), .sl (.int .u8)]], g_msg_Clone⟩), (25, ⟨[.cat [.int .i64, .int .i64, .int .i64, .int .u32, .int .u32, .int .u64, .int .u64, .int .i64, .int .i64, .sl (.int .u8), .sl (.int .u8), .sl (.int .u8)]], [.int .i64], g_msg_Check⟩), (26, ⟨[.cat [.int .i64, .int .i64, .int .i64, .int .u32, .int .u32, .int .u64, .int .u64, .int .i64, .int .i64, .sl (.int .u8), .sl (.int .u8), .sl (.int .u8)]], [.int .i64], g_ref21_Check⟩), (27, ⟨[.cat [.int .i64, .int .i64, .int .i64, .int .u32, .int .u32, .int .u64, .int .u64, .int .i64, .int .i64, .sl (.int .u8), .sl (.int .u8), .sl (.int .u8)], .cat [.int .i64, .int .i64, .int .i64, .int .u32, .int .u32, .int .u64, .int .u64, .int .i64, .int .i64, .sl (.int .u8), .sl (.int .u8), .sl (.int .u8)]], [.bool], g_msg_Same⟩), (28, ⟨[.cat [.int .i64, .int .i64, .int .i64, .int .u32, .int .u32, .int .u64, .int .u64, .int .i64, .int .i64, .sl (.int .u8), .sl (.int .u8), .sl (.int .u8)], .cat [.int .i64, .int .i64, .int .i64, .int .u32, .int .u32, .int .u64, .int .u64, .int .i64, .int .i64, .sl (.int .u8), .sl (.int .u8), .sl (.int .u8)]], [.bool], g_ref21_Same⟩)] [(28, .u64, 2)]
noncomputable def p_law21_MsgChecks_H : Hints := [(8, [2, 6, 51, 52, 53]), (11, [2, 6, 8, 51, 52, 53, 58, 59]), (2000000, [2, 6]), (2000001, [2, 6, 51, 52, 53]), (2000002, [2, 6, 51, 52, 53]), (2000003, [2, 6, 8, 51, 52, 53, 58, 59]), (3000000, [4])]
noncomputable def p_law21_MsgChecks_c : Code := (Go.Proofs.Try.f5).body.getD .skip
noncomputable def p_law21_MsgChecks_l11_S : Shape where
  h := { tmps := [.any, .any, .sc (.ptr 0 0 false), .any, .any, .any, .sc (.ptr 1 0 false), .any, .sc (.vec 2 none 1), .any, .any, .any, .any, .any, .any, .any, .any, .any, .any, .any, .any, .any, .any, .any, .any, .any, .any, .any, .any, .any, .any, .any, .any, .any, .any, .any, .any, .any, .any, .any, .any, .any, .any, .any, .any, .any, .any, .any, .any, .any, .any, .sc (.vec 3 (some 3) 1), .sc (.int .i64), .sc (.int .i64), .any, .any, .any, .any, .sc (.int .i64), .sc (.int .i64), .any, .any, .any, .any, .any, .any, .any, .any, .any, .any, .any, .any, .any, .any, .any, .any, .any, .any], mem := [.live [.one (.int .i64), .one (.int .i64), .one (.int .i64), .one (.int .u32), .one (.int .u32), .one (.int .u64), .one (.int .u64), .one (.int .i64), .one (.int .i64), .one (.fr (.int .u8)), .one (.fr (.int .u8)), .one (.fr (.int .u8))] (.own), .live [.one (.int .i64), .one (.int .i64), .one (.int .i64), .one (.int .u32), .one (.int .u32), .one (.int .u64), .one (.int .u64), .one (.int .i64), .one (.int .i64), .one (.vec 4 none 1), .one (.vec 5 none 1), .one (.vec 6 none 1)] (.own), .live [.xs (.int .u8) none] (.own), .live [.one (.vec 2 none 1), .one (.vec 7 none 1), .one (.vec 8 none 1)] (.own), .live [.xs (.int .u8) none] (.own), .live [.xs (.int .u8) none] (.own), .live [.xs (.int .u8) none] (.own), .live [.xs (.int .u8) none] (.own), .live [.xs (.int .u8) none] (.own)] }
  ks := [.nat, .int, .int, .int, .int, .int, .int, .int, .int, .int, .int, .int, .int, .int, .xs, .xs, .xs, .int, .int, .int, .int, .int, .int, .int, .int, .int, .nat, .nat, .nat, .nat, .xs, .nat, .nat, .nat, .nat, .xs, .nat, .xs, .nat, .xs, .nat, .xs, .nat, .xs]
  st := fun x => { tmps := [.one .any, .one .any, .one (.sc (.ptr 0 0 none)), .one .any, .one .any, .one .any, .one (.sc (.ptr 1 0 none)), .one .any, .one (.sc (.vec 2 x.1 1)), .one .any, .one .any, .one .any, .one .any, .one .any, .one .any, .one .any, .one .any, .one .any, .one .any, .one .any, .one .any, .one .any, .one .any, .one .any, .one .any, .one .any, .one .any, .one .any, .one .any, .one .any, .one .any, .one .any, .one .any, .one .any, .one .any, .one .any, .one .any, .one .any, .one .any, .one .any, .one .any, .one .any, .one .any, .one .any, .one .any, .one .any, .one .any, .one .any, .one .any, .one .any, .one .any, .one (.sc (.vec 3 3 1)), .one (.sc (.int .i64 x.2.1)), .one (.sc (.int .i64 x.2.2.1)), .one .any, .one .any, .one .any, .one .any, .one (.sc (.int .i64 x.2.2.2.1)), .one (.sc (.int .i64 x.2.2.2.2.1)), .one .any, .one .any, .one .any, .one .any, .one .any, .one .any, .one .any, .one .any, .one .any, .one .any, .one .any, .one .any, .one .any, .one .any, .one .any, .one .any, .one .any, .one .any], mem := [.live { segs := [.one (.int .i64 x.2.2.2.2.2.1), .one (.int .i64 x.2.2.2.2.2.2.1), .one (.int .i64 x.2.2.2.2.2.2.2.1), .one (.int .u32 x.2.2.2.2.2.2.2.2.1), .one (.int .u32 x.2.2.2.2.2.2.2.2.2.1), .one (.int .u64 x.2.2.2.2.2.2.2.2.2.2.1), .one (.int .u64 x.2.2.2.2.2.2.2.2.2.2.2.1), .one (.int .i64 x.2.2.2.2.2.2.2.2.2.2.2.2.1), .one (.int .i64 x.2.2.2.2.2.2.2.2.2.2.2.2.2.1), .one (.fr (.xs (.int .u8) x.2.2.2.2.2.2.2.2.2.2.2.2.2.2.1)), .one (.fr (.xs (.int .u8) x.2.2.2.2.2.2.2.2.2.2.2.2.2.2.2.1)), .one (.fr (.xs (.int .u8) x.2.2.2.2.2.2.2.2.2.2.2.2.2.2.2.2.1))], own := .own }, .live { segs := [.one (.int .i64 x.2.2.2.2.2.2.2.2.2.2.2.2.2.2.2.2.2.1), .one (.int .i64 x.2.2.2.2.2.2.2.2.2.2.2.2.2.2.2.2.2.2.1), .one (.int .i64 x.2.2.2.2.2.2.2.2.2.2.2.2.2.2.2.2.2.2.2.1), .one (.int .u32 x.2.2.2.2.2.2.2.2.2.2.2.2.2.2.2.2.2.2.2.2.1), .one (.int .u32 x.2.2.2.2.2.2.2.2.2.2.2.2.2.2.2.2.2.2.2.2.2.1), .one (.int .u64 x.2.2.2.2.2.2.2.2.2.2.2.2.2.2.2.2.2.2.2.2.2.2.1), .one (.int .u64 x.2.2.2.2.2.2.2.2.2.2.2.2.2.2.2.2.2.2.2.2.2.2.2.1), .one (.int .i64 x.2.2.2.2.2.2.2.2.2.2.2.2.2.2.2.2.2.2.2.2.2.2.2.2.1), .one (.int .i64 x.2.2.2.2.2.2.2.2.2.2.2.2.2.2.2.2.2.2.2.2.2.2.2.2.2.1), .one (.vec 4 x.2.2.2.2.2.2.2.2.2.2.2.2.2.2.2.2.2.2.2.2.2.2.2.2.2.2.1 1), .one (.vec 5 x.2.2.2.2.2.2.2.2.2.2.2.2.2.2.2.2.2.2.2.2.2.2.2.2.2.2.2.1 1), .one (.vec 6 x.2.2.2.2.2.2.2.2.2.2.2.2.2.2.2.2.2.2.2.2.2.2.2.2.2.2.2.2.1 1)], own := .own }, .live { segs := [.xs (.int .u8) x.2.2.2.2.2.2.2.2.2.2.2.2.2.2.2.2.2.2.2.2.2.2.2.2.2.2.2.2.2.1 x.2.2.2.2.2.2.2.2.2.2.2.2.2.2.2.2.2.2.2.2.2.2.2.2.2.2.2.2.2.2.1], own := .own }, .live { segs := [.one (.vec 2 x.2.2.2.2.2.2.2.2.2.2.2.2.2.2.2.2.2.2.2.2.2.2.2.2.2.2.2.2.2.2.2.1 1), .one (.vec 7 x.2.2.2.2.2.2.2.2.2.2.2.2.2.2.2.2.2.2.2.2.2.2.2.2.2.2.2.2.2.2.2.2.1 1), .one (.vec 8 x.2.2.2.2.2.2.2.2.2.2.2.2.2.2.2.2.2.2.2.2.2.2.2.2.2.2.2.2.2.2.2.2.2.1 1)], own := .own }, .live { segs := [.xs (.int .u8) x.2.2.2.2.2.2.2.2.2.2.2.2.2.2.2.2.2.2.2.2.2.2.2.2.2.2.2.2.2.2.2.2.2.2.1 x.2.2.2.2.2.2.2.2.2.2.2.2.2.2.2.2.2.2.2.2.2.2.2.2.2.2.2.2.2.2.2.2.2.2.2.1], own := .own }, .live { segs := [.xs (.int .u8) x.2.2.2.2.2.2.2.2.2.2.2.2.2.2.2.2.2.2.2.2.2.2.2.2.2.2.2.2.2.2.2.2.2.2.2.2.1 x.2.2.2.2.2.2.2.2.2.2.2.2.2.2.2.2.2.2.2.2.2.2.2.2.2.2.2.2.2.2.2.2.2.2.2.2.2.1], own := .own }, .live { segs := [.xs (.int .u8) x.2.2.2.2.2.2.2.2.2.2.2.2.2.2.2.2.2.2.2.2.2.2.2.2.2.2.2.2.2.2.2.2.2.2.2.2.2.2.1 x.2.2.2.2.2.2.2.2.2.2.2.2.2.2.2.2.2.2.2.2.2.2.2.2.2.2.2.2.2.2.2.2.2.2.2.2.2.2.2.1], own := .own }, .live { segs := [.xs (.int .u8) x.2.2.2.2.2.2.2.2.2.2.2.2.2.2.2.2.2.2.2.2.2.2.2.2.2.2.2.2.2.2.2.2.2.2.2.2.2.2.2.2.1 x.2.2.2.2.2.2.2.2.2.2.2.2.2.2.2.2.2.2.2.2.2.2.2.2.2.2.2.2.2.2.2.2.2.2.2.2.2.2.2.2.2.1], own := .own }, .live { segs := [.xs (.int .u8) x.2.2.2.2.2.2.2.2.2.2.2.2.2.2.2.2.2.2.2.2.2.2.2.2.2.2.2.2.2.2.2.2.2.2.2.2.2.2.2.2.2.2.1 x.2.2.2.2.2.2.2.2.2.2.2.2.2.2.2.2.2.2.2.2.2.2.2.2.2.2.2.2.2.2.2.2.2.2.2.2.2.2.2.2.2.2.2.1], own := .own }] }
noncomputable def p_law21_MsgChecks_l11_F (N : Nat) (β : Type) (x : (Nat × Int × Int × Int × Int × Int × Int × Int × Int × Int × Int × Int × Int × Int × List Int × List Int × List Int × Int × Int × Int × Int × Int × Int × Int × Int × Int × Nat × Nat × Nat × Nat × List Int × Nat × Nat × Nat × Nat × List Int × Nat × List Int × Nat × List Int × Nat × List Int × Nat × List Int × Unit)) (kn : (Nat × Int × Int × Int × Int × Int × Int × Int × Int × Int × Int × Int × Int × Int × List Int × List Int × List Int × Int × Int × Int × Int × Int × Int × Int × Int × Int × Nat × Nat × Nat × Nat × List Int × Nat × Nat × Nat × Nat × List Int × Nat × List Int × Nat × List Int × Nat × List Int × Nat × List Int × Unit) → Option β) (ke : ((Int × Int × Int × Int × Int × Int × Int × Int × Int × Int × Int × List Int × List Int × List Int × Int × Int × Int × Int × Int × Int × Int × Int × Int × Nat × Nat × Nat × Nat × Nat × Nat × Nat × List Int × Nat × List Int × Nat × List Int × Nat × List Int × Nat × List Int × Nat × List Int × Unit)) → Option β) : Option β :=
  if (x.2.2.2.2.1 < x.2.2.2.1) then
    if 0 ≤ x.2.2.2.2.1 then (
    if x.2.2.2.2.1 < ((x.1 : Nat) : Int) then (
    if (x.2.2.2.2.1.toNat) < x.2.2.2.2.2.2.2.2.2.2.2.2.2.2.2.2.2.2.2.2.2.2.2.2.2.2.2.2.2.1 then (
    if 0 ≤ x.2.2.2.2.1 then (
    if x.2.2.2.2.1 < ((x.1 : Nat) : Int) then (
    if (x.2.2.2.2.1.toNat) < x.2.2.2.2.2.2.2.2.2.2.2.2.2.2.2.2.2.2.2.2.2.2.2.2.2.2.2.2.2.1 then (
    kn (x.1, x.2.1, x.2.2.1, x.2.2.2.1, (IntKind.i64.wrap (x.2.2.2.2.1 + (1:Int))), x.2.2.2.2.2.1, x.2.2.2.2.2.2.1, x.2.2.2.2.2.2.2.1, x.2.2.2.2.2.2.2.2.1, x.2.2.2.2.2.2.2.2.2.1, x.2.2.2.2.2.2.2.2.2.2.1, x.2.2.2.2.2.2.2.2.2.2.2.1, x.2.2.2.2.2.2.2.2.2.2.2.2.1, x.2.2.2.2.2.2.2.2.2.2.2.2.2.1, x.2.2.2.2.2.2.2.2.2.2.2.2.2.2.1, x.2.2.2.2.2.2.2.2.2.2.2.2.2.2.2.1, x.2.2.2.2.2.2.2.2.2.2.2.2.2.2.2.2.1, x.2.2.2.2.2.2.2.2.2.2.2.2.2.2.2.2.2.1, x.2.2.2.2.2.2.2.2.2.2.2.2.2.2.2.2.2.2.1, x.2.2.2.2.2.2.2.2.2.2.2.2.2.2.2.2.2.2.2.1, x.2.2.2.2.2.2.2.2.2.2.2.2.2.2.2.2.2.2.2.2.1, x.2.2.2.2.2.2.2.2.2.2.2.2.2.2.2.2.2.2.2.2.2.1, x.2.2.2.2.2.2.2.2.2.2.2.2.2.2.2.2.2.2.2.2.2.2.1, x.2.2.2.2.2.2.2.2.2.2.2.2.2.2.2.2.2.2.2.2.2.2.2.1, x.2.2.2.2.2.2.2.2.2.2.2.2.2.2.2.2.2.2.2.2.2.2.2.2.1, x.2.2.2.2.2.2.2.2.2.2.2.2.2.2.2.2.2.2.2.2.2.2.2.2.2.1, x.2.2.2.2.2.2.2.2.2.2.2.2.2.2.2.2.2.2.2.2.2.2.2.2.2.2.1, x.2.2.2.2.2.2.2.2.2.2.2.2.2.2.2.2.2.2.2.2.2.2.2.2.2.2.2.1, x.2.2.2.2.2.2.2.2.2.2.2.2.2.2.2.2.2.2.2.2.2.2.2.2.2.2.2.2.1, x.2.2.2.2.2.2.2.2.2.2.2.2.2.2.2.2.2.2.2.2.2.2.2.2.2.2.2.2.2.1, (List.set x.2.2.2.2.2.2.2.2.2.2.2.2.2.2.2.2.2.2.2.2.2.2.2.2.2.2.2.2.2.2.1 (x.2.2.2.2.1.toNat) (IntKind.u8.wrap ((List.getD x.2.2.2.2.2.2.2.2.2.2.2.2.2.2.2.2.2.2.2.2.2.2.2.2.2.2.2.2.2.2.1 (x.2.2.2.2.1.toNat) 0) + (1:Int)))), x.2.2.2.2.2.2.2.2.2.2.2.2.2.2.2.2.2.2.2.2.2.2.2.2.2.2.2.2.2.2.2.1, x.2.2.2.2.2.2.2.2.2.2.2.2.2.2.2.2.2.2.2.2.2.2.2.2.2.2.2.2.2.2.2.2.1, x.2.2.2.2.2.2.2.2.2.2.2.2.2.2.2.2.2.2.2.2.2.2.2.2.2.2.2.2.2.2.2.2.2.1, x.2.2.2.2.2.2.2.2.2.2.2.2.2.2.2.2.2.2.2.2.2.2.2.2.2.2.2.2.2.2.2.2.2.2.1, x.2.2.2.2.2.2.2.2.2.2.2.2.2.2.2.2.2.2.2.2.2.2.2.2.2.2.2.2.2.2.2.2.2.2.2.1, x.2.2.2.2.2.2.2.2.2.2.2.2.2.2.2.2.2.2.2.2.2.2.2.2.2.2.2.2.2.2.2.2.2.2.2.2.1, x.2.2.2.2.2.2.2.2.2.2.2.2.2.2.2.2.2.2.2.2.2.2.2.2.2.2.2.2.2.2.2.2.2.2.2.2.2.1, x.2.2.2.2.2.2.2.2.2.2.2.2.2.2.2.2.2.2.2.2.2.2.2.2.2.2.2.2.2.2.2.2.2.2.2.2.2.2.1, x.2.2.2.2.2.2.2.2.2.2.2.2.2.2.2.2.2.2.2.2.2.2.2.2.2.2.2.2.2.2.2.2.2.2.2.2.2.2.2.1, x.2.2.2.2.2.2.2.2.2.2.2.2.2.2.2.2.2.2.2.2.2.2.2.2.2.2.2.2.2.2.2.2.2.2.2.2.2.2.2.2.1, x.2.2.2.2.2.2.2.2.2.2.2.2.2.2.2.2.2.2.2.2.2.2.2.2.2.2.2.2.2.2.2.2.2.2.2.2.2.2.2.2.2.1, x.2.2.2.2.2.2.2.2.2.2.2.2.2.2.2.2.2.2.2.2.2.2.2.2.2.2.2.2.2.2.2.2.2.2.2.2.2.2.2.2.2.2.1, x.2.2.2.2.2.2.2.2.2.2.2.2.2.2.2.2.2.2.2.2.2.2.2.2.2.2.2.2.2.2.2.2.2.2.2.2.2.2.2.2.2.2.2.1, ())) else none) else none) else none) else none) else none) else none
  else
    ke (x.2.1, x.2.2.1, x.2.2.2.2.2.1, x.2.2.2.2.2.2.1, x.2.2.2.2.2.2.2.1, x.2.2.2.2.2.2.2.2.1, x.2.2.2.2.2.2.2.2.2.1, x.2.2.2.2.2.2.2.2.2.2.1, x.2.2.2.2.2.2.2.2.2.2.2.1, x.2.2.2.2.2.2.2.2.2.2.2.2.1, x.2.2.2.2.2.2.2.2.2.2.2.2.2.1, x.2.2.2.2.2.2.2.2.2.2.2.2.2.2.1, x.2.2.2.2.2.2.2.2.2.2.2.2.2.2.2.1, x.2.2.2.2.2.2.2.2.2.2.2.2.2.2.2.2.1, x.2.2.2.2.2.2.2.2.2.2.2.2.2.2.2.2.2.1, x.2.2.2.2.2.2.2.2.2.2.2.2.2.2.2.2.2.2.1, x.2.2.2.2.2.2.2.2.2.2.2.2.2.2.2.2.2.2.2.1, x.2.2.2.2.2.2.2.2.2.2.2.2.2.2.2.2.2.2.2.2.1, x.2.2.2.2.2.2.2.2.2.2.2.2.2.2.2.2.2.2.2.2.2.1, x.2.2.2.2.2.2.2.2.2.2.2.2.2.2.2.2.2.2.2.2.2.2.1, x.2.2.2.2.2.2.2.2.2.2.2.2.2.2.2.2.2.2.2.2.2.2.2.1, x.2.2.2.2.2.2.2.2.2.2.2.2.2.2.2.2.2.2.2.2.2.2.2.2.1, x.2.2.2.2.2.2.2.2.2.2.2.2.2.2.2.2.2.2.2.2.2.2.2.2.2.1, x.2.2.2.2.2.2.2.2.2.2.2.2.2.2.2.2.2.2.2.2.2.2.2.2.2.2.1, x.2.2.2.2.2.2.2.2.2.2.2.2.2.2.2.2.2.2.2.2.2.2.2.2.2.2.2.1, x.2.2.2.2.2.2.2.2.2.2.2.2.2.2.2.2.2.2.2.2.2.2.2.2.2.2.2.2.1, x.2.2.2.2.2.2.2.2.2.2.2.2.2.2.2.2.2.2.2.2.2.2.2.2.2.2.2.2.2.2.2.1, x.2.2.2.2.2.2.2.2.2.2.2.2.2.2.2.2.2.2.2.2.2.2.2.2.2.2.2.2.2.2.2.2.1, x.2.2.2.2.2.2.2.2.2.2.2.2.2.2.2.2.2.2.2.2.2.2.2.2.2.2.2.2.2.2.2.2.2.1, x.2.2.2.2.2.2.2.2.2.2.2.2.2.2.2.2.2.2.2.2.2.2.2.2.2.2.2.2.2.2.2.2.2.2.1, x.2.2.2.2.2.2.2.2.2.2.2.2.2.2.2.2.2.2.2.2.2.2.2.2.2.2.2.2.2.2.2.2.2.2.2.1, x.2.2.2.2.2.2.2.2.2.2.2.2.2.2.2.2.2.2.2.2.2.2.2.2.2.2.2.2.2.2.2.2.2.2.2.2.1, x.2.2.2.2.2.2.2.2.2.2.2.2.2.2.2.2.2.2.2.2.2.2.2.2.2.2.2.2.2.2.2.2.2.2.2.2.2.1, x.2.2.2.2.2.2.2.2.2.2.2.2.2.2.2.2.2.2.2.2.2.2.2.2.2.2.2.2.2.2.2.2.2.2.2.2.2.2.1, x.2.2.2.2.2.2.2.2.2.2.2.2.2.2.2.2.2.2.2.2.2.2.2.2.2.2.2.2.2.2.2.2.2.2.2.2.2.2.2.1, x.2.2.2.2.2.2.2.2.2.2.2.2.2.2.2.2.2.2.2.2.2.2.2.2.2.2.2.2.2.1, x.2.2.2.2.2.2.2.2.2.2.2.2.2.2.2.2.2.2.2.2.2.2.2.2.2.2.2.2.2.2.1, x.2.2.2.2.2.2.2.2.2.2.2.2.2.2.2.2.2.2.2.2.2.2.2.2.2.2.2.2.2.2.2.2.2.2.2.2.2.2.2.2.1, x.2.2.2.2.2.2.2.2.2.2.2.2.2.2.2.2.2.2.2.2.2.2.2.2.2.2.2.2.2.2.2.2.2.2.2.2.2.2.2.2.2.1, x.2.2.2.2.2.2.2.2.2.2.2.2.2.2.2.2.2.2.2.2.2.2.2.2.2.2.2.2.2.2.2.2.2.2.2.2.2.2.2.2.2.2.1, x.2.2.2.2.2.2.2.2.2.2.2.2.2.2.2.2.2.2.2.2.2.2.2.2.2.2.2.2.2.2.2.2.2.2.2.2.2.2.2.2.2.2.2.1, ())
noncomputable def p_law21_MsgChecks_l11_go : Go' ((Int × Int × Int × Int × Int × Int × Int × Int × Int × Int × Int × List Int × List Int × List Int × Int × Int × Int × Int × Int × Int × Int × Int × Int × Nat × Nat × Nat × Nat × Nat × Nat × Nat × List Int × Nat × List Int × Nat × List Int × Nat × List Int × Nat × List Int × Nat × List Int × Unit)) := fun y K => K (.exit 2) { tmps := [.one .any, .one .any, .one (.sc (.ptr 0 0 none)), .one .any, .one .any, .one .any, .one (.sc (.ptr 1 0 none)), .one .any, .one .any, .one .any, .one .any, .one .any, .one .any, .one .any, .one .any, .one .any, .one .any, .one .any, .one .any, .one .any, .one .any, .one .any, .one .any, .one .any, .one .any, .one .any, .one .any, .one .any, .one .any, .one .any, .one .any, .one .any, .one .any, .one .any, .one .any, .one .any, .one .any, .one .any, .one .any, .one .any, .one .any, .one .any, .one .any, .one .any, .one .any, .one .any, .one .any, .one .any, .one .any, .one .any, .one .any, .one (.sc (.vec 2 3 1)), .one (.sc (.int .i64 y.1)), .one (.sc (.int .i64 y.2.1)), .one .any, .one .any, .one .any, .one .any, .one .any, .one .any, .one .any, .one .any, .one .any, .one .any, .one .any, .one .any, .one .any, .one .any, .one .any, .one .any, .one .any, .one .any, .one .any, .one .any, .one .any, .one .any, .one .any, .one .any], mem := [.live { segs := [.one (.int .i64 y.2.2.1), .one (.int .i64 y.2.2.2.1), .one (.int .i64 y.2.2.2.2.1), .one (.int .u32 y.2.2.2.2.2.1), .one (.int .u32 y.2.2.2.2.2.2.1), .one (.int .u64 y.2.2.2.2.2.2.2.1), .one (.int .u64 y.2.2.2.2.2.2.2.2.1), .one (.int .i64 y.2.2.2.2.2.2.2.2.2.1), .one (.int .i64 y.2.2.2.2.2.2.2.2.2.2.1), .one (.fr (.xs (.int .u8) y.2.2.2.2.2.2.2.2.2.2.2.1)), .one (.fr (.xs (.int .u8) y.2.2.2.2.2.2.2.2.2.2.2.2.1)), .one (.fr (.xs (.int .u8) y.2.2.2.2.2.2.2.2.2.2.2.2.2.1))], own := .own }, .live { segs := [.one (.int .i64 y.2.2.2.2.2.2.2.2.2.2.2.2.2.2.1), .one (.int .i64 y.2.2.2.2.2.2.2.2.2.2.2.2.2.2.2.1), .one (.int .i64 y.2.2.2.2.2.2.2.2.2.2.2.2.2.2.2.2.1), .one (.int .u32 y.2.2.2.2.2.2.2.2.2.2.2.2.2.2.2.2.2.1), .one (.int .u32 y.2.2.2.2.2.2.2.2.2.2.2.2.2.2.2.2.2.2.1), .one (.int .u64 y.2.2.2.2.2.2.2.2.2.2.2.2.2.2.2.2.2.2.2.1), .one (.int .u64 y.2.2.2.2.2.2.2.2.2.2.2.2.2.2.2.2.2.2.2.2.1), .one (.int .i64 y.2.2.2.2.2.2.2.2.2.2.2.2.2.2.2.2.2.2.2.2.2.1), .one (.int .i64 y.2.2.2.2.2.2.2.2.2.2.2.2.2.2.2.2.2.2.2.2.2.2.1), .one (.vec 3 y.2.2.2.2.2.2.2.2.2.2.2.2.2.2.2.2.2.2.2.2.2.2.2.1 1), .one (.vec 4 y.2.2.2.2.2.2.2.2.2.2.2.2.2.2.2.2.2.2.2.2.2.2.2.2.1 1), .one (.vec 5 y.2.2.2.2.2.2.2.2.2.2.2.2.2.2.2.2.2.2.2.2.2.2.2.2.2.1 1)], own := .own }, .live { segs := [.one (.vec 6 y.2.2.2.2.2.2.2.2.2.2.2.2.2.2.2.2.2.2.2.2.2.2.2.2.2.2.1 1), .one (.vec 7 y.2.2.2.2.2.2.2.2.2.2.2.2.2.2.2.2.2.2.2.2.2.2.2.2.2.2.2.1 1), .one (.vec 8 y.2.2.2.2.2.2.2.2.2.2.2.2.2.2.2.2.2.2.2.2.2.2.2.2.2.2.2.2.1 1)], own := .own }, .live { segs := [.xs (.int .u8) y.2.2.2.2.2.2.2.2.2.2.2.2.2.2.2.2.2.2.2.2.2.2.2.2.2.2.2.2.2.1 y.2.2.2.2.2.2.2.2.2.2.2.2.2.2.2.2.2.2.2.2.2.2.2.2.2.2.2.2.2.2.1], own := .own }, .live { segs := [.xs (.int .u8) y.2.2.2.2.2.2.2.2.2.2.2.2.2.2.2.2.2.2.2.2.2.2.2.2.2.2.2.2.2.2.2.1 y.2.2.2.2.2.2.2.2.2.2.2.2.2.2.2.2.2.2.2.2.2.2.2.2.2.2.2.2.2.2.2.2.1], own := .own }, .live { segs := [.xs (.int .u8) y.2.2.2.2.2.2.2.2.2.2.2.2.2.2.2.2.2.2.2.2.2.2.2.2.2.2.2.2.2.2.2.2.2.1 y.2.2.2.2.2.2.2.2.2.2.2.2.2.2.2.2.2.2.2.2.2.2.2.2.2.2.2.2.2.2.2.2.2.2.1], own := .own }, .live { segs := [.xs (.int .u8) y.2.2.2.2.2.2.2.2.2.2.2.2.2.2.2.2.2.2.2.2.2.2.2.2.2.2.2.2.2.2.2.2.2.2.2.1 y.2.2.2.2.2.2.2.2.2.2.2.2.2.2.2.2.2.2.2.2.2.2.2.2.2.2.2.2.2.2.2.2.2.2.2.2.1], own := .own }, .live { segs := [.xs (.int .u8) y.2.2.2.2.2.2.2.2.2.2.2.2.2.2.2.2.2.2.2.2.2.2.2.2.2.2.2.2.2.2.2.2.2.2.2.2.2.1 y.2.2.2.2.2.2.2.2.2.2.2.2.2.2.2.2.2.2.2.2.2.2.2.2.2.2.2.2.2.2.2.2.2.2.2.2.2.2.1], own := .own }, .live { segs := [.xs (.int .u8) y.2.2.2.2.2.2.2.2.2.2.2.2.2.2.2.2.2.2.2.2.2.2.2.2.2.2.2.2.2.2.2.2.2.2.2.2.2.2.2.1 y.2.2.2.2.2.2.2.2.2.2.2.2.2.2.2.2.2.2.2.2.2.2.2.2.2.2.2.2.2.2.2.2.2.2.2.2.2.2.2.2.1], own := .own }] }
theorem p_law21_MsgChecks_l11_e (N : Nat) : EntryOk p_law21_MsgChecks_E p_law21_MsgChecks_H N (loopE p_law21_MsgChecks_l11_S N (p_law21_MsgChecks_l11_F N) p_law21_MsgChecks_l11_go) (.loop (theLoop 11 p_law21_MsgChecks_c)) :=
  loopOk (body := p_law21_MsgChecks_c) (k := 11) (c := theLoop 11 p_law21_MsgChecks_c) (OkAll.nil) (by kernel_rfl) (fun x => by kernel_rfl) (fun β x kn ke => by kernel_rfl)
noncomputable def p_law21_MsgChecks_l11v1_S : Shape where
  h := { tmps := [.any, .any, .sc (.ptr 0 0 false), .any, .any, .any, .sc (.ptr 1 0 false), .any, .sc (.vec 2 none 1), .any, .any, .any, .any, .any, .any, .any, .any, .any, .any, .any, .any, .any, .any, .any, .any, .any, .any, .any, .any, .any, .any, .any, .any, .any, .any, .any, .any, .any, .any, .any, .any, .any, .any, .any, .any, .any, .any, .any, .any, .any, .any, .sc (.vec 3 (some 3) 1), .sc (.int .i64), .sc (.int .i64), .any, .any, .any, .any, .sc (.int .i64), .sc (.int .i64), .any, .any, .any, .any, .any, .any, .any, .any, .any, .any, .any, .any, .any, .any, .any, .any, .any, .any], mem := [.live [.one (.int .i64), .one (.int .i64), .one (.int .i64), .one (.int .u32), .one (.int .u32), .one (.int .u64), .one (.int .u64), .one (.int .i64), .one (.int .i64), .one (.fr (.int .u8)), .one (.fr (.int .u8)), .one (.fr (.int .u8))] (.own), .live [.one (.int .i64), .one (.int .i64), .one (.int .i64), .one (.int .u32), .one (.int .u32), .one (.int .u64), .one (.int .u64), .one (.int .i64), .one (.int .i64), .one (.vec 4 none 1), .one (.vec 5 none 1), .one (.vec 6 none 1)] (.own), .live [.xs (.int .u8) none] (.own), .live [.one (.vec 7 none 1), .one (.vec 2 none 1), .one (.vec 8 none 1)] (.own), .live [.xs (.int .u8) none] (.own), .live [.xs (.int .u8) none] (.own), .live [.xs (.int .u8) none] (.own), .live [.xs (.int .u8) none] (.own), .live [.xs (.int .u8) none] (.own)] }
  ks := [.nat, .int, .int, .int, .int, .int, .int, .int, .int, .int, .int, .int, .int, .int, .xs, .xs, .xs, .int, .int, .int, .int, .int, .int, .int, .int, .int, .nat, .nat, .nat, .nat, .xs, .nat, .nat, .nat, .nat, .xs, .nat, .xs, .nat, .xs, .nat, .xs, .nat, .xs]
  st := fun x => { tmps := [.one .any, .one .any, .one (.sc (.ptr 0 0 none)), .one .any, .one .any, .one .any, .one (.sc (.ptr 1 0 none)), .one .any, .one (.sc (.vec 2 x.1 1)), .one .any, .one .any, .one .any, .one .any, .one .any, .one .any, .one .any, .one .any, .one .any, .one .any, .one .any, .one .any, .one .any, .one .any, .one .any, .one .any, .one .any, .one .any, .one .any, .one .any, .one .any, .one .any, .one .any, .one .any, .one .any, .one .any, .one .any, .one .any, .one .any, .one .any, .one .any, .one .any, .one .any, .one .any, .one .any, .one .any, .one .any, .one .any, .one .any, .one .any, .one .any, .one .any, .one (.sc (.vec 3 3 1)), .one (.sc (.int .i64 x.2.1)), .one (.sc (.int .i64 x.2.2.1)), .one .any, .one .any, .one .any, .one .any, .one (.sc (.int .i64 x.2.2.2.1)), .one (.sc (.int .i64 x.2.2.2.2.1)), .one .any, .one .any, .one .any, .one .any, .one .any, .one .any, .one .any, .one .any, .one .any, .one .any, .one .any, .one .any, .one .any, .one .any, .one .any, .one .any, .one .any, .one .any], mem := [.live { segs := [.one (.int .i64 x.2.2.2.2.2.1), .one (.int .i64 x.2.2.2.2.2.2.1), .one (.int .i64 x.2.2.2.2.2.2.2.1), .one (.int .u32 x.2.2.2.2.2.2.2.2.1), .one (.int .u32 x.2.2.2.2.2.2.2.2.2.1), .one (.int .u64 x.2.2.2.2.2.2.2.2.2.2.1), .one (.int .u64 x.2.2.2.2.2.2.2.2.2.2.2.1), .one (.int .i64 x.2.2.2.2.2.2.2.2.2.2.2.2.1), .one (.int .i64 x.2.2.2.2.2.2.2.2.2.2.2.2.2.1), .one (.fr (.xs (.int .u8) x.2.2.2.2.2.2.2.2.2.2.2.2.2.2.1)), .one (.fr (.xs (.int .u8) x.2.2.2.2.2.2.2.2.2.2.2.2.2.2.2.1)), .one (.fr (.xs (.int .u8) x.2.2.2.2.2.2.2.2.2.2.2.2.2.2.2.2.1))], own := .own }, .live { segs := [.one (.int .i64 x.2.2.2.2.2.2.2.2.2.2.2.2.2.2.2.2.2.1), .one (.int .i64 x.2.2.2.2.2.2.2.2.2.2.2.2.2.2.2.2.2.2.1), .one (.int .i64 x.2.2.2.2.2.2.2.2.2.2.2.2.2.2.2.2.2.2.2.1), .one (.int .u32 x.2.2.2.2.2.2.2.2.2.2.2.2.2.2.2.2.2.2.2.2.1), .one (.int .u32 x.2.2.2.2.2.2.2.2.2.2.2.2.2.2.2.2.2.2.2.2.2.1), .one (.int .u64 x.2.2.2.2.2.2.2.2.2.2.2.2.2.2.2.2.2.2.2.2.2.2.1), .one (.int .u64 x.2.2.2.2.2.2.2.2.2.2.2.2.2.2.2.2.2.2.2.2.2.2.2.1), .one (.int .i64 x.2.2.2.2.2.2.2.2.2.2.2.2.2.2.2.2.2.2.2.2.2.2.2.2.1), .one (.int .i64 x.2.2.2.2.2.2.2.2.2.2.2.2.2.2.2.2.2.2.2.2.2.2.2.2.2.1), .one (.vec 4 x.2.2.2.2.2.2.2.2.2.2.2.2.2.2.2.2.2.2.2.2.2.2.2.2.2.2.1 1), .one (.vec 5 x.2.2.2.2.2.2.2.2.2.2.2.2.2.2.2.2.2.2.2.2.2.2.2.2.2.2.2.1 1), .one (.vec 6 x.2.2.2.2.2.2.2.2.2.2.2.2.2.2.2.2.2.2.2.2.2.2.2.2.2.2.2.2.1 1)], own := .own }, .live { segs := [.xs (.int .u8) x.2.2.2.2.2.2.2.2.2.2.2.2.2.2.2.2.2.2.2.2.2.2.2.2.2.2.2.2.2.1 x.2.2.2.2.2.2.2.2.2.2.2.2.2.2.2.2.2.2.2.2.2.2.2.2.2.2.2.2.2.2.1], own := .own }, .live { segs := [.one (.vec 7 x.2.2.2.2.2.2.2.2.2.2.2.2.2.2.2.2.2.2.2.2.2.2.2.2.2.2.2.2.2.2.2.1 1), .one (.vec 2 x.2.2.2.2.2.2.2.2.2.2.2.2.2.2.2.2.2.2.2.2.2.2.2.2.2.2.2.2.2.2.2.2.1 1), .one (.vec 8 x.2.2.2.2.2.2.2.2.2.2.2.2.2.2.2.2.2.2.2.2.2.2.2.2.2.2.2.2.2.2.2.2.2.1 1)], own := .own }, .live { segs := [.xs (.int .u8) x.2.2.2.2.2.2.2.2.2.2.2.2.2.2.2.2.2.2.2.2.2.2.2.2.2.2.2.2.2.2.2.2.2.2.1 x.2.2.2.2.2.2.2.2.2.2.2.2.2.2.2.2.2.2.2.2.2.2.2.2.2.2.2.2.2.2.2.2.2.2.2.1], own := .own }, .live { segs := [.xs (.int .u8) x.2.2.2.2.2.2.2.2.2.2.2.2.2.2.2.2.2.2.2.2.2.2.2.2.2.2.2.2.2.2.2.2.2.2.2.2.1 x.2.2.2.2.2.2.2.2.2.2.2.2.2.2.2.2.2.2.2.2.2.2.2.2.2.2.2.2.2.2.2.2.2.2.2.2.2.1], own := .own }, .live { segs := [.xs (.int .u8) x.2.2.2.2.2.2.2.2.2.2.2.2.2.2.2.2.2.2.2.2.2.2.2.2.2.2.2.2.2.2.2.2.2.2.2.2.2.2.1 x.2.2.2.2.2.2.2.2.2.2.2.2.2.2.2.2.2.2.2.2.2.2.2.2.2.2.2.2.2.2.2.2.2.2.2.2.2.2.2.1], own := .own }, .live { segs := [.xs (.int .u8) x.2.2.2.2.2.2.2.2.2.2.2.2.2.2.2.2.2.2.2.2.2.2.2.2.2.2.2.2.2.2.2.2.2.2.2.2.2.2.2.2.1 x.2.2.2.2.2.2.2.2.2.2.2.2.2.2.2.2.2.2.2.2.2.2.2.2.2.2.2.2.2.2.2.2.2.2.2.2.2.2.2.2.2.1], own := .own }, .live { segs := [.xs (.int .u8) x.2.2.2.2.2.2.2.2.2.2.2.2.2.2.2.2.2.2.2.2.2.2.2.2.2.2.2.2.2.2.2.2.2.2.2.2.2.2.2.2.2.2.1 x.2.2.2.2.2.2.2.2.2.2.2.2.2.2.2.2.2.2.2.2.2.2.2.2.2.2.2.2.2.2.2.2.2.2.2.2.2.2.2.2.2.2.2.1], own := .own }] }
noncomputable def p_law21_MsgChecks_l11v1_F (N : Nat) (β : Type) (x : (Nat × Int × Int × Int × Int × Int × Int × Int × Int × Int × Int × Int × Int × Int × List Int × List Int × List Int × Int × Int × Int × Int × Int × Int × Int × Int × Int × Nat × Nat × Nat × Nat × List Int × Nat × Nat × Nat × Nat × List Int × Nat × List Int × Nat × List Int × Nat × List Int × Nat × List Int × Unit)) (kn : (Nat × Int × Int × Int × Int × Int × Int × Int × Int × Int × Int × Int × Int × Int × List Int × List Int × List Int × Int × Int × Int × Int × Int × Int × Int × Int × Int × Nat × Nat × Nat × Nat × List Int × Nat × Nat × Nat × Nat × List Int × Nat × List Int × Nat × List Int × Nat × List Int × Nat × List Int × Unit) → Option β) (ke : ((Int × Int × Int × Int × Int × Int × Int × Int × Int × Int × Int × List Int × List Int × List Int × Int × Int × Int × Int × Int × Int × Int × Int × Int × Nat × Nat × Nat × Nat × Nat × Nat × Nat × List Int × Nat × List Int × Nat × List Int × Nat × List Int × Nat × List Int × Nat × List Int × Unit)) → Option β) : Option β :=
  if (x.2.2.2.2.1 < x.2.2.2.1) then
    if 0 ≤ x.2.2.2.2.1 then (
    if x.2.2.2.2.1 < ((x.1 : Nat) : Int) then (
    if (x.2.2.2.2.1.toNat) < x.2.2.2.2.2.2.2.2.2.2.2.2.2.2.2.2.2.2.2.2.2.2.2.2.2.2.2.2.2.1 then (
    if 0 ≤ x.2.2.2.2.1 then (
    if x.2.2.2.2.1 < ((x.1 : Nat) : Int) then (
    if (x.2.2.2.2.1.toNat) < x.2.2.2.2.2.2.2.2.2.2.2.2.2.2.2.2.2.2.2.2.2.2.2.2.2.2.2.2.2.1 then (
    kn (x.1, x.2.1, x.2.2.1, x.2.2.2.1, (IntKind.i64.wrap (x.2.2.2.2.1 + (1:Int))), x.2.2.2.2.2.1, x.2.2.2.2.2.2.1, x.2.2.2.2.2.2.2.1, x.2.2.2.2.2.2.2.2.1, x.2.2.2.2.2.2.2.2.2.1, x.2.2.2.2.2.2.2.2.2.2.1, x.2.2.2.2.2.2.2.2.2.2.2.1, x.2.2.2.2.2.2.2.2.2.2.2.2.1, x.2.2.2.2.2.2.2.2.2.2.2.2.2.1, x.2.2.2.2.2.2.2.2.2.2.2.2.2.2.1, x.2.2.2.2.2.2.2.2.2.2.2.2.2.2.2.1, x.2.2.2.2.2.2.2.2.2.2.2.2.2.2.2.2.1, x.2.2.2.2.2.2.2.2.2.2.2.2.2.2.2.2.2.1, x.2.2.2.2.2.2.2.2.2.2.2.2.2.2.2.2.2.2.1, x.2.2.2.2.2.2.2.2.2.2.2.2.2.2.2.2.2.2.2.1, x.2.2.2.2.2.2.2.2.2.2.2.2.2.2.2.2.2.2.2.2.1, x.2.2.2.2.2.2.2.2.2.2.2.2.2.2.2.2.2.2.2.2.2.1, x.2.2.2.2.2.2.2.2.2.2.2.2.2.2.2.2.2.2.2.2.2.2.1, x.2.2.2.2.2.2.2.2.2.2.2.2.2.2.2.2.2.2.2.2.2.2.2.1, x.2.2.2.2.2.2.2.2.2.2.2.2.2.2.2.2.2.2.2.2.2.2.2.2.1, x.2.2.2.2.2.2.2.2.2.2.2.2.2.2.2.2.2.2.2.2.2.2.2.2.2.1, x.2.2.2.2.2.2.2.2.2.2.2.2.2.2.2.2.2.2.2.2.2.2.2.2.2.2.1, x.2.2.2.2.2.2.2.2.2.2.2.2.2.2.2.2.2.2.2.2.2.2.2.2.2.2.2.1, x.2.2.2.2.2.2.2.2.2.2.2.2.2.2.2.2.2.2.2.2.2.2.2.2.2.2.2.2.1, x.2.2.2.2.2.2.2.2.2.2.2.2.2.2.2.2.2.2.2.2.2.2.2.2.2.2.2.2.2.1, (List.set x.2.2.2.2.2.2.2.2.2.2.2.2.2.2.2.2.2.2.2.2.2.2.2.2.2.2.2.2.2.2.1 (x.2.2.2.2.1.toNat) (IntKind.u8.wrap ((List.getD x.2.2.2.2.2.2.2.2.2.2.2.2.2.2.2.2.2.2.2.2.2.2.2.2.2.2.2.2.2.2.1 (x.2.2.2.2.1.toNat) 0) + (1:Int)))), x.2.2.2.2.2.2.2.2.2.2.2.2.2.2.2.2.2.2.2.2.2.2.2.2.2.2.2.2.2.2.2.1, x.2.2.2.2.2.2.2.2.2.2.2.2.2.2.2.2.2.2.2.2.2.2.2.2.2.2.2.2.2.2.2.2.1, x.2.2.2.2.2.2.2.2.2.2.2.2.2.2.2.2.2.2.2.2.2.2.2.2.2.2.2.2.2.2.2.2.2.1, x.2.2.2.2.2.2.2.2.2.2.2.2.2.2.2.2.2.2.2.2.2.2.2.2.2.2.2.2.2.2.2.2.2.2.1, x.2.2.2.2.2.2.2.2.2.2.2.2.2.2.2.2.2.2.2.2.2.2.2.2.2.2.2.2.2.2.2.2.2.2.2.1, x.2.2.2.2.2.2.2.2.2.2.2.2.2.2.2.2.2.2.2.2.2.2.2.2.2.2.2.2.2.2.2.2.2.2.2.2.1, x.2.2.2.2.2.2.2.2.2.2.2.2.2.2.2.2.2.2.2.2.2.2.2.2.2.2.2.2.2.2.2.2.2.2.2.2.2.1, x.2.2.2.2.2.2.2.2.2.2.2.2.2.2.2.2.2.2.2.2.2.2.2.2.2.2.2.2.2.2.2.2.2.2.2.2.2.2.1, x.2.2.2.2.2.2.2.2.2.2.2.2.2.2.2.2.2.2.2.2.2.2.2.2.2.2.2.2.2.2.2.2.2.2.2.2.2.2.2.1, x.2.2.2.2.2.2.2.2.2.2.2.2.2.2.2.2.2.2.2.2.2.2.2.2.2.2.2.2.2.2.2.2.2.2.2.2.2.2.2.2.1, x.2.2.2.2.2.2.2.2.2.2.2.2.2.2.2.2.2.2.2.2.2.2.2.2.2.2.2.2.2.2.2.2.2.2.2.2.2.2.2.2.2.1, x.2.2.2.2.2.2.2.2.2.2.2.2.2.2.2.2.2.2.2.2.2.2.2.2.2.2.2.2.2.2.2.2.2.2.2.2.2.2.2.2.2.2.1, x.2.2.2.2.2.2.2.2.2.2.2.2.2.2.2.2.2.2.2.2.2.2.2.2.2.2.2.2.2.2.2.2.2.2.2.2.2.2.2.2.2.2.2.1, ())) else none) else none) else none) else none) else none) else none
  else
    ke (x.2.1, x.2.2.1, x.2.2.2.2.2.1, x.2.2.2.2.2.2.1, x.2.2.2.2.2.2.2.1, x.2.2.2.2.2.2.2.2.1, x.2.2.2.2.2.2.2.2.2.1, x.2.2.2.2.2.2.2.2.2.2.1, x.2.2.2.2.2.2.2.2.2.2.2.1, x.2.2.2.2.2.2.2.2.2.2.2.2.1, x.2.2.2.2.2.2.2.2.2.2.2.2.2.1, x.2.2.2.2.2.2.2.2.2.2.2.2.2.2.1, x.2.2.2.2.2.2.2.2.2.2.2.2.2.2.2.1, x.2.2.2.2.2.2.2.2.2.2.2.2.2.2.2.2.1, x.2.2.2.2.2.2.2.2.2.2.2.2.2.2.2.2.2.1, x.2.2.2.2.2.2.2.2.2.2.2.2.2.2.2.2.2.2.1, x.2.2.2.2.2.2.2.2.2.2.2.2.2.2.2.2.2.2.2.1, x.2.2.2.2.2.2.2.2.2.2.2.2.2.2.2.2.2.2.2.2.1, x.2.2.2.2.2.2.2.2.2.2.2.2.2.2.2.2.2.2.2.2.2.1, x.2.2.2.2.2.2.2.2.2.2.2.2.2.2.2.2.2.2.2.2.2.2.1, x.2.2.2.2.2.2.2.2.2.2.2.2.2.2.2.2.2.2.2.2.2.2.2.1, x.2.2.2.2.2.2.2.2.2.2.2.2.2.2.2.2.2.2.2.2.2.2.2.2.1, x.2.2.2.2.2.2.2.2.2.2.2.2.2.2.2.2.2.2.2.2.2.2.2.2.2.1, x.2.2.2.2.2.2.2.2.2.2.2.2.2.2.2.2.2.2.2.2.2.2.2.2.2.2.1, x.2.2.2.2.2.2.2.2.2.2.2.2.2.2.2.2.2.2.2.2.2.2.2.2.2.2.2.1, x.2.2.2.2.2.2.2.2.2.2.2.2.2.2.2.2.2.2.2.2.2.2.2.2.2.2.2.2.1, x.2.2.2.2.2.2.2.2.2.2.2.2.2.2.2.2.2.2.2.2.2.2.2.2.2.2.2.2.2.2.2.1, x.2.2.2.2.2.2.2.2.2.2.2.2.2.2.2.2.2.2.2.2.2.2.2.2.2.2.2.2.2.2.2.2.1, x.2.2.2.2.2.2.2.2.2.2.2.2.2.2.2.2.2.2.2.2.2.2.2.2.2.2.2.2.2.2.2.2.2.1, x.2.2.2.2.2.2.2.2.2.2.2.2.2.2.2.2.2.2.2.2.2.2.2.2.2.2.2.2.2.2.2.2.2.2.1, x.2.2.2.2.2.2.2.2.2.2.2.2.2.2.2.2.2.2.2.2.2.2.2.2.2.2.2.2.2.2.2.2.2.2.2.1, x.2.2.2.2.2.2.2.2.2.2.2.2.2.2.2.2.2.2.2.2.2.2.2.2.2.2.2.2.2.2.2.2.2.2.2.2.1, x.2.2.2.2.2.2.2.2.2.2.2.2.2.2.2.2.2.2.2.2.2.2.2.2.2.2.2.2.2.2.2.2.2.2.2.2.2.1, x.2.2.2.2.2.2.2.2.2.2.2.2.2.2.2.2.2.2.2.2.2.2.2.2.2.2.2.2.2.2.2.2.2.2.2.2.2.2.1, x.2.2.2.2.2.2.2.2.2.2.2.2.2.2.2.2.2.2.2.2.2.2.2.2.2.2.2.2.2.2.2.2.2.2.2.2.2.2.2.1, x.2.2.2.2.2.2.2.2.2.2.2.2.2.2.2.2.2.2.2.2.2.2.2.2.2.2.2.2.2.2.2.2.2.2.2.2.2.2.2.2.1, x.2.2.2.2.2.2.2.2.2.2.2.2.2.2.2.2.2.2.2.2.2.2.2.2.2.2.2.2.2.2.2.2.2.2.2.2.2.2.2.2.2.1, x.2.2.2.2.2.2.2.2.2.2.2.2.2.2.2.2.2.2.2.2.2.2.2.2.2.2.2.2.2.1, x.2.2.2.2.2.2.2.2.2.2.2.2.2.2.2.2.2.2.2.2.2.2.2.2.2.2.2.2.2.2.1, x.2.2.2.2.2.2.2.2.2.2.2.2.2.2.2.2.2.2.2.2.2.2.2.2.2.2.2.2.2.2.2.2.2.2.2.2.2.2.2.2.2.2.1, x.2.2.2.2.2.2.2.2.2.2.2.2.2.2.2.2.2.2.2.2.2.2.2.2.2.2.2.2.2.2.2.2.2.2.2.2.2.2.2.2.2.2.2.1, ())
noncomputable def p_law21_MsgChecks_l11v1_go : Go' ((Int × Int × Int × Int × Int × Int × Int × Int × Int × Int × Int × List Int × List Int × List Int × Int × Int × Int × Int × Int × Int × Int × Int × Int × Nat × Nat × Nat × Nat × Nat × Nat × Nat × List Int × Nat × List Int × Nat × List Int × Nat × List Int × Nat × List Int × Nat × List Int × Unit)) := fun y K => K (.exit 2) { tmps := [.one .any, .one .any, .one (.sc (.ptr 0 0 none)), .one .any, .one .any, .one .any, .one (.sc (.ptr 1 0 none)), .one .any, .one .any, .one .any, .one .any, .one .any, .one .any, .one .any, .one .any, .one .any, .one .any, .one .any, .one .any, .one .any, .one .any, .one .any, .one .any, .one .any, .one .any, .one .any, .one .any, .one .any, .one .any, .one .any, .one .any, .one .any, .one .any, .one .any, .one .any, .one .any, .one .any, .one .any, .one .any, .one .any, .one .any, .one .any, .one .any, .one .any, .one .any, .one .any, .one .any, .one .any, .one .any, .one .any, .one .any, .one (.sc (.vec 2 3 1)), .one (.sc (.int .i64 y.1)), .one (.sc (.int .i64 y.2.1)), .one .any, .one .any, .one .any, .one .any, .one .any, .one .any, .one .any, .one .any, .one .any, .one .any, .one .any, .one .any, .one .any, .one .any, .one .any, .one .any, .one .any, .one .any, .one .any, .one .any, .one .any, .one .any, .one .any, .one .any], mem := [.live { segs := [.one (.int .i64 y.2.2.1), .one (.int .i64 y.2.2.2.1), .one (.int .i64 y.2.2.2.2.1), .one (.int .u32 y.2.2.2.2.2.1), .one (.int .u32 y.2.2.2.2.2.2.1), .one (.int .u64 y.2.2.2.2.2.2.2.1), .one (.int .u64 y.2.2.2.2.2.2.2.2.1), .one (.int .i64 y.2.2.2.2.2.2.2.2.2.1), .one (.int .i64 y.2.2.2.2.2.2.2.2.2.2.1), .one (.fr (.xs (.int .u8) y.2.2.2.2.2.2.2.2.2.2.2.1)), .one (.fr (.xs (.int .u8) y.2.2.2.2.2.2.2.2.2.2.2.2.1)), .one (.fr (.xs (.int .u8) y.2.2.2.2.2.2.2.2.2.2.2.2.2.1))], own := .own }, .live { segs := [.one (.int .i64 y.2.2.2.2.2.2.2.2.2.2.2.2.2.2.1), .one (.int .i64 y.2.2.2.2.2.2.2.2.2.2.2.2.2.2.2.1), .one (.int .i64 y.2.2.2.2.2.2.2.2.2.2.2.2.2.2.2.2.1), .one (.int .u32 y.2.2.2.2.2.2.2.2.2.2.2.2.2.2.2.2.2.1), .one (.int .u32 y.2.2.2.2.2.2.2.2.2.2.2.2.2.2.2.2.2.2.1), .one (.int .u64 y.2.2.2.2.2.2.2.2.2.2.2.2.2.2.2.2.2.2.2.1), .one (.int .u64 y.2.2.2.2.2.2.2.2.2.2.2.2.2.2.2.2.2.2.2.2.1), .one (.int .i64 y.2.2.2.2.2.2.2.2.2.2.2.2.2.2.2.2.2.2.2.2.2.1), .one (.int .i64 y.2.2.2.2.2.2.2.2.2.2.2.2.2.2.2.2.2.2.2.2.2.2.1), .one (.vec 3 y.2.2.2.2.2.2.2.2.2.2.2.2.2.2.2.2.2.2.2.2.2.2.2.1 1), .one (.vec 4 y.2.2.2.2.2.2.2.2.2.2.2.2.2.2.2.2.2.2.2.2.2.2.2.2.1 1), .one (.vec 5 y.2.2.2.2.2.2.2.2.2.2.2.2.2.2.2.2.2.2.2.2.2.2.2.2.2.1 1)], own := .own }, .live { segs := [.one (.vec 6 y.2.2.2.2.2.2.2.2.2.2.2.2.2.2.2.2.2.2.2.2.2.2.2.2.2.2.1 1), .one (.vec 7 y.2.2.2.2.2.2.2.2.2.2.2.2.2.2.2.2.2.2.2.2.2.2.2.2.2.2.2.1 1), .one (.vec 8 y.2.2.2.2.2.2.2.2.2.2.2.2.2.2.2.2.2.2.2.2.2.2.2.2.2.2.2.2.1 1)], own := .own }, .live { segs := [.xs (.int .u8) y.2.2.2.2.2.2.2.2.2.2.2.2.2.2.2.2.2.2.2.2.2.2.2.2.2.2.2.2.2.1 y.2.2.2.2.2.2.2.2.2.2.2.2.2.2.2.2.2.2.2.2.2.2.2.2.2.2.2.2.2.2.1], own := .own }, .live { segs := [.xs (.int .u8) y.2.2.2.2.2.2.2.2.2.2.2.2.2.2.2.2.2.2.2.2.2.2.2.2.2.2.2.2.2.2.2.1 y.2.2.2.2.2.2.2.2.2.2.2.2.2.2.2.2.2.2.2.2.2.2.2.2.2.2.2.2.2.2.2.2.1], own := .own }, .live { segs := [.xs (.int .u8) y.2.2.2.2.2.2.2.2.2.2.2.2.2.2.2.2.2.2.2.2.2.2.2.2.2.2.2.2.2.2.2.2.2.1 y.2.2.2.2.2.2.2.2.2.2.2.2.2.2.2.2.2.2.2.2.2.2.2.2.2.2.2.2.2.2.2.2.2.2.1], own := .own }, .live { segs := [.xs (.int .u8) y.2.2.2.2.2.2.2.2.2.2.2.2.2.2.2.2.2.2.2.2.2.2.2.2.2.2.2.2.2.2.2.2.2.2.2.1 y.2.2.2.2.2.2.2.2.2.2.2.2.2.2.2.2.2.2.2.2.2.2.2.2.2.2.2.2.2.2.2.2.2.2.2.2.1], own := .own }, .live { segs := [.xs (.int .u8) y.2.2.2.2.2.2.2.2.2.2.2.2.2.2.2.2.2.2.2.2.2.2.2.2.2.2.2.2.2.2.2.2.2.2.2.2.2.1 y.2.2.2.2.2.2.2.2.2.2.2.2.2.2.2.2.2.2.2.2.2.2.2.2.2.2.2.2.2.2.2.2.2.2.2.2.2.2.1], own := .own }, .live { segs := [.xs (.int .u8) y.2.2.2.2.2.2.2.2.2.2.2.2.2.2.2.2.2.2.2.2.2.2.2.2.2.2.2.2.2.2.2.2.2.2.2.2.2.2.2.1 y.2.2.2.2.2.2.2.2.2.2.2.2.2.2.2.2.2.2.2.2.2.2.2.2.2.2.2.2.2.2.2.2.2.2.2.2.2.2.2.2.1], own := .own }] }
theorem p_law21_MsgChecks_l11v1_e (N : Nat) : EntryOk p_law21_MsgChecks_E p_law21_MsgChecks_H N (loopE p_law21_MsgChecks_l11v1_S N (p_law21_MsgChecks_l11v1_F N) p_law21_MsgChecks_l11v1_go) (.loop (theLoop 11 p_law21_MsgChecks_c)) :=
  loopOk (body := p_law21_MsgChecks_c) (k := 11) (c := theLoop 11 p_law21_MsgChecks_c) (OkAll.nil) (by kernel_rfl) (fun x => by kernel_rfl) (fun β x kn ke => by kernel_rfl)
noncomputable def p_law21_MsgChecks_l11v2_S : Shape where
  h := { tmps := [.any, .any, .sc (.ptr 0 0 false), .any, .any, .any, .sc (.ptr 1 0 false), .any, .sc (.vec 2 none 1), .any, .any, .any, .any, .any, .any, .any, .any, .any, .any, .any, .any, .any, .any, .any, .any, .any, .any, .any, .any, .any, .any, .any, .any, .any, .any, .any, .any, .any, .any, .any, .any, .any, .any, .any, .any, .any, .any, .any, .any, .any, .any, .sc (.vec 3 (some 3) 1), .sc (.int .i64), .sc (.int .i64), .any, .any, .any, .any, .sc (.int .i64), .sc (.int .i64), .any, .any, .any, .any, .any, .any, .any, .any, .any, .any, .any, .any, .any, .any, .any, .any, .any, .any], mem := [.live [.one (.int .i64), .one (.int .i64), .one (.int .i64), .one (.int .u32), .one (.int .u32), .one (.int .u64), .one (.int .u64), .one (.int .i64), .one (.int .i64), .one (.fr (.int .u8)), .one (.fr (.int .u8)), .one (.fr (.int .u8))] (.own), .live [.one (.int .i64), .one (.int .i64), .one (.int .i64), .one (.int .u32), .one (.int .u32), .one (.int .u64), .one (.int .u64), .one (.int .i64), .one (.int .i64), .one (.vec 4 none 1), .one (.vec 5 none 1), .one (.vec 6 none 1)] (.own), .live [.xs (.int .u8) none] (.own), .live [.one (.vec 7 none 1), .one (.vec 8 none 1), .one (.vec 2 none 1)] (.own), .live [.xs (.int .u8) none] (.own), .live [.xs (.int .u8) none] (.own), .live [.xs (.int .u8) none] (.own), .live [.xs (.int .u8) none] (.own), .live [.xs (.int .u8) none] (.own)] }
  ks := [.nat, .int, .int, .int, .int, .int, .int, .int, .int, .int, .int, .int, .int, .int, .xs, .xs, .xs, .int, .int, .int, .int, .int, .int, .int, .int, .int, .nat, .nat, .nat, .nat, .xs, .nat, .nat, .nat, .nat, .xs, .nat, .xs, .nat, .xs, .nat, .xs, .nat, .xs]
  st := fun x => { tmps := [.one .any, .one .any, .one (.sc (.ptr 0 0 none)), .one .any, .one .any, .one .any, .one (.sc (.ptr 1 0 none)), .one .any, .one (.sc (.vec 2 x.1 1)), .one .any, .one .any, .one .any, .one .any, .one .any, .one .any, .one .any, .one .any, .one .any, .one .any, .one .any, .one .any, .one .any, .one .any, .one .any, .one .any, .one .any, .one .any, .one .any, .one .any, .one .any, .one .any, .one .any, .one .any, .one .any, .one .any, .one .any, .one .any, .one .any, .one .any, .one .any, .one .any, .one .any, .one .any, .one .any, .one .any, .one .any, .one .any, .one .any, .one .any, .one .any, .one .any, .one (.sc (.vec 3 3 1)), .one (.sc (.int .i64 x.2.1)), .one (.sc (.int .i64 x.2.2.1)), .one .any, .one .any, .one .any, .one .any, .one (.sc (.int .i64 x.2.2.2.1)), .one (.sc (.int .i64 x.2.2.2.2.1)), .one .any, .one .any, .one .any, .one .any, .one .any, .one .any, .one .any, .one .any, .one .any, .one .any, .one .any, .one .any, .one .any, .one .any, .one .any, .one .any, .one .any, .one .any], mem := [.live { segs := [.one (.int .i64 x.2.2.2.2.2.1), .one (.int .i64 x.2.2.2.2.2.2.1), .one (.int .i64 x.2.2.2.2.2.2.2.1), .one (.int .u32 x.2.2.2.2.2.2.2.2.1), .one (.int .u32 x.2.2.2.2.2.2.2.2.2.1), .one (.int .u64 x.2.2.2.2.2.2.2.2.2.2.1), .one (.int .u64 x.2.2.2.2.2.2.2.2.2.2.2.1), .one (.int .i64 x.2.2.2.2.2.2.2.2.2.2.2.2.1), .one (.int .i64 x.2.2.2.2.2.2.2.2.2.2.2.2.2.1), .one (.fr (.xs (.int .u8) x.2.2.2.2.2.2.2.2.2.2.2.2.2.2.1)), .one (.fr (.xs (.int .u8) x.2.2.2.2.2.2.2.2.2.2.2.2.2.2.2.1)), .one (.fr (.xs (.int .u8) x.2.2.2.2.2.2.2.2.2.2.2.2.2.2.2.2.1))], own := .own }, .live { segs := [.one (.int .i64 x.2.2.2.2.2.2.2.2.2.2.2.2.2.2.2.2.2.1), .one (.int .i64 x.2.2.2.2.2.2.2.2.2.2.2.2.2.2.2.2.2.2.1), .one (.int .i64 x.2.2.2.2.2.2.2.2.2.2.2.2.2.2.2.2.2.2.2.1), .one (.int .u32 x.2.2.2.2.2.2.2.2.2.2.2.2.2.2.2.2.2.2.2.2.1), .one (.int .u32 x.2.2.2.2.2.2.2.2.2.2.2.2.2.2.2.2.2.2.2.2.2.1), .one (.int .u64 x.2.2.2.2.2.2.2.2.2.2.2.2.2.2.2.2.2.2.2.2.2.2.1), .one (.int .u64 x.2.2.2.2.2.2.2.2.2.2.2.2.2.2.2.2.2.2.2.2.2.2.2.1), .one (.int .i64 x.2.2.2.2.2.2.2.2.2.2.2.2.2.2.2.2.2.2.2.2.2.2.2.2.1), .one (.int .i64 x.2.2.2.2.2.2.2.2.2.2.2.2.2.2.2.2.2.2.2.2.2.2.2.2.2.1), .one (.vec 4 x.2.2.2.2.2.2.2.2.2.2.2.2.2.2.2.2.2.2.2.2.2.2.2.2.2.2.1 1), .one (.vec 5 x.2.2.2.2.2.2.2.2.2.2.2.2.2.2.2.2.2.2.2.2.2.2.2.2.2.2.2.1 1), .one (.vec 6 x.2.2.2.2.2.2.2.2.2.2.2.2.2.2.2.2.2.2.2.2.2.2.2.2.2.2.2.2.1 1)], own := .own }, .live { segs := [.xs (.int .u8) x.2.2.2.2.2.2.2.2.2.2.2.2.2.2.2.2.2.2.2.2.2.2.2.2.2.2.2.2.2.1 x.2.2.2.2.2.2.2.2.2.2.2.2.2.2.2.2.2.2.2.2.2.2.2.2.2.2.2.2.2.2.1], own := .own }, .live { segs := [.one (.vec 7 x.2.2.2.2.2.2.2.2.2.2.2.2.2.2.2.2.2.2.2.2.2.2.2.2.2.2.2.2.2.2.2.1 1), .one (.vec 8 x.2.2.2.2.2.2.2.2.2.2.2.2.2.2.2.2.2.2.2.2.2.2.2.2.2.2.2.2.2.2.2.2.1 1), .one (.vec 2 x.2.2.2.2.2.2.2.2.2.2.2.2.2.2.2.2.2.2.2.2.2.2.2.2.2.2.2.2.2.2.2.2.2.1 1)], own := .own }, .live { segs := [.xs (.int .u8) x.2.2.2.2.2.2.2.2.2.2.2.2.2.2.2.2.2.2.2.2.2.2.2.2.2.2.2.2.2.2.2.2.2.2.1 x.2.2.2.2.2.2.2.2.2.2.2.2.2.2.2.2.2.2.2.2.2.2.2.2.2.2.2.2.2.2.2.2.2.2.2.1], own := .own }, .live { segs := [.xs (.int .u8) x.2.2.2.2.2.2.2.2.2.2.2.2.2.2.2.2.2.2.2.2.2.2.2.2.2.2.2.2.2.2.2.2.2.2.2.2.1 x.2.2.2.2.2.2.2.2.2.2.2.2.2.2.2.2.2.2.2.2.2.2.2.2.2.2.2.2.2.2.2.2.2.2.2.2.2.1], own := .own }, .live { segs := [.xs (.int .u8) x.2.2.2.2.2.2.2.2.2.2.2.2.2.2.2.2.2.2.2.2.2.2.2.2.2.2.2.2.2.2.2.2.2.2.2.2.2.2.1 x.2.2.2.2.2.2.2.2.2.2.2.2.2.2.2.2.2.2.2.2.2.2.2.2.2.2.2.2.2.2.2.2.2.2.2.2.2.2.2.1], own := .own }, .live { segs := [.xs (.int .u8) x.2.2.2.2.2.2.2.2.2.2.2.2.2.2.2.2.2.2.2.2.2.2.2.2.2.2.2.2.2.2.2.2.2.2.2.2.2.2.2.2.1 x.2.2.2.2.2.2.2.2.2.2.2.2.2.2.2.2.2.2.2.2.2.2.2.2.2.2.2.2.2.2.2.2.2.2.2.2.2.2.2.2.2.1], own := .own }, .live { segs := [.xs (.int .u8) x.2.2.2.2.2.2.2.2.2.2.2.2.2.2.2.2.2.2.2.2.2.2.2.2.2.2.2.2.2.2.2.2.2.2.2.2.2.2.2.2.2.2.1 x.2.2.2.2.2.2.2.2.2.2.2.2.2.2.2.2.2.2.2.2.2.2.2.2.2.2.2.2.2.2.2.2.2.2.2.2.2.2.2.2.2.2.2.1], own := .own }] }
noncomputable def p_law21_MsgChecks_l11v2_F (N : Nat) (β : Type) (x : (Nat × Int × Int × Int × Int × Int × Int × Int × Int × Int × Int × Int × Int × Int × List Int × List Int × List Int × Int × Int × Int × Int × Int × Int × Int × Int × Int × Nat × Nat × Nat × Nat × List Int × Nat × Nat × Nat × Nat × List Int × Nat × List Int × Nat × List Int × Nat × List Int × Nat × List Int × Unit)) (kn : (Nat × Int × Int × Int × Int × Int × Int × Int × Int × Int × Int × Int × Int × Int × List Int × List Int × List Int × Int × Int × Int × Int × Int × Int × Int × Int × Int × Nat × Nat × Nat × Nat × List Int × Nat × Nat × Nat × Nat × List Int × Nat × List Int × Nat × List Int × Nat × List Int × Nat × List Int × Unit) → Option β) (ke : ((Int × Int × Int × Int × Int × Int × Int × Int × Int × Int × Int × List Int × List Int × List Int × Int × Int × Int × Int × Int × Int × Int × Int × Int × Nat × Nat × Nat × Nat × Nat × Nat × Nat × List Int × Nat × List Int × Nat × List Int × Nat × List Int × Nat × List Int × Nat × List Int × Unit)) → Option β) : Option β :=
  if (x.2.2.2.2.1 < x.2.2.2.1) then
    if 0 ≤ x.2.2.2.2.1 then (
    if x.2.2.2.2.1 < ((x.1 : Nat) : Int) then (
    if (x.2.2.2.2.1.toNat) < x.2.2.2.2.2.2.2.2.2.2.2.2.2.2.2.2.2.2.2.2.2.2.2.2.2.2.2.2.2.1 then (
    if 0 ≤ x.2.2.2.2.1 then (
    if x.2.2.2.2.1 < ((x.1 : Nat) : Int) then (
    if (x.2.2.2.2.1.toNat) < x.2.2.2.2.2.2.2.2.2.2.2.2.2.2.2.2.2.2.2.2.2.2.2.2.2.2.2.2.2.1 then (
    kn (x.1, x.2.1, x.2.2.1, x.2.2.2.1, (IntKind.i64.wrap (x.2.2.2.2.1 + (1:Int))), x.2.2.2.2.2.1, x.2.2.2.2.2.2.1, x.2.2.2.2.2.2.2.1, x.2.2.2.2.2.2.2.2.1, x.2.2.2.2.2.2.2.2.2.1, x.2.2.2.2.2.2.2.2.2.2.1, x.2.2.2.2.2.2.2.2.2.2.2.1, x.2.2.2.2.2.2.2.2.2.2.2.2.1, x.2.2.2.2.2.2.2.2.2.2.2.2.2.1, x.2.2.2.2.2.2.2.2.2.2.2.2.2.2.1, x.2.2.2.2.2.2.2.2.2.2.2.2.2.2.2.1, x.2.2.2.2.2.2.2.2.2.2.2.2.2.2.2.2.1, x.2.2.2.2.2.2.2.2.2.2.2.2.2.2.2.2.2.1, x.2.2.2.2.2.2.2.2.2.2.2.2.2.2.2.2.2.2.1, x.2.2.2.2.2.2.2.2.2.2.2.2.2.2.2.2.2.2.2.1, x.2.2.2.2.2.2.2.2.2.2.2.2.2.2.2.2.2.2.2.2.1, x.2.2.2.2.2.2.2.2.2.2.2.2.2.2.2.2.2.2.2.2.2.1, x.2.2.2.2.2.2.2.2.2.2.2.2.2.2.2.2.2.2.2.2.2.2.1, x.2.2.2.2.2.2.2.2.2.2.2.2.2.2.2.2.2.2.2.2.2.2.2.1, x.2.2.2.2.2.2.2.2.2.2.2.2.2.2.2.2.2.2.2.2.2.2.2.2.1, x.2.2.2.2.2.2.2.2.2.2.2.2.2.2.2.2.2.2.2.2.2.2.2.2.2.1, x.2.2.2.2.2.2.2.2.2.2.2.2.2.2.2.2.2.2.2.2.2.2.2.2.2.2.1, x.2.2.2.2.2.2.2.2.2.2.2.2.2.2.2.2.2.2.2.2.2.2.2.2.2.2.2.1, x.2.2.2.2.2.2.2.2.2.2.2.2.2.2.2.2.2.2.2.2.2.2.2.2.2.2.2.2.1, x.2.2.2.2.2.2.2.2.2.2.2.2.2.2.2.2.2.2.2.2.2.2.2.2.2.2.2.2.2.1, (List.set x.2.2.2.2.2.2.2.2.2.2.2.2.2.2.2.2.2.2.2.2.2.2.2.2.2.2.2.2.2.2.1 (x.2.2.2.2.1.toNat) (IntKind.u8.wrap ((List.getD x.2.2.2.2.2.2.2.2.2.2.2.2.2.2.2.2.2.2.2.2.2.2.2.2.2.2.2.2.2.2.1 (x.2.2.2.2.1.toNat) 0) + (1:Int)))), x.2.2.2.2.2.2.2.2.2.2.2.2.2.2.2.2.2.2.2.2.2.2.2.2.2.2.2.2.2.2.2.1, x.2.2.2.2.2.2.2.2.2.2.2.2.2.2.2.2.2.2.2.2.2.2.2.2.2.2.2.2.2.2.2.2.1, x.2.2.2.2.2.2.2.2.2.2.2.2.2.2.2.2.2.2.2.2.2.2.2.2.2.2.2.2.2.2.2.2.2.1, x.2.2.2.2.2.2.2.2.2.2.2.2.2.2.2.2.2.2.2.2.2.2.2.2.2.2.2.2.2.2.2.2.2.2.1, x.2.2.2.2.2.2.2.2.2.2.2.2.2.2.2.2.2.2.2.2.2.2.2.2.2.2.2.2.2.2.2.2.2.2.2.1, x.2.2.2.2.2.2.2.2.2.2.2.2.2.2.2.2.2.2.2.2.2.2.2.2.2.2.2.2.2.2.2.2.2.2.2.2.1, x.2.2.2.2.2.2.2.2.2.2.2.2.2.2.2.2.2.2.2.2.2.2.2.2.2.2.2.2.2.2.2.2.2.2.2.2.2.1, x.2.2.2.2.2.2.2.2.2.2.2.2.2.2.2.2.2.2.2.2.2.2.2.2.2.2.2.2.2.2.2.2.2.2.2.2.2.2.1, x.2.2.2.2.2.2.2.2.2.2.2.2.2.2.2.2.2.2.2.2.2.2.2.2.2.2.2.2.2.2.2.2.2.2.2.2.2.2.2.1, x.2.2.2.2.2.2.2.2.2.2.2.2.2.2.2.2.2.2.2.2.2.2.2.2.2.2.2.2.2.2.2.2.2.2.2.2.2.2.2.2.1, x.2.2.2.2.2.2.2.2.2.2.2.2.2.2.2.2.2.2.2.2.2.2.2.2.2.2.2.2.2.2.2.2.2.2.2.2.2.2.2.2.2.1, x.2.2.2.2.2.2.2.2.2.2.2.2.2.2.2.2.2.2.2.2.2.2.2.2.2.2.2.2.2.2.2.2.2.2.2.2.2.2.2.2.2.2.1, x.2.2.2.2.2.2.2.2.2.2.2.2.2.2.2.2.2.2.2.2.2.2.2.2.2.2.2.2.2.2.2.2.2.2.2.2.2.2.2.2.2.2.2.1, ())) else none) else none) else none) else none) else none) else none
  else
    ke (x.2.1, x.2.2.1, x.2.2.2.2.2.1, x.2.2.2.2.2.2.1, x.2.2.2.2.2.2.2.1, x.2.2.2.2.2.2.2.2.1, x.2.2.2.2.2.2.2.2.2.1, x.2.2.2.2.2.2.2.2.2.2.1, x.2.2.2.2.2.2.2.2.2.2.2.1, x.2.2.2.2.2.2.2.2.2.2.2.2.1, x.2.2.2.2.2.2.2.2.2.2.2.2.2.1, x.2.2.2.2.2.2.2.2.2.2.2.2.2.2.1, x.2.2.2.2.2.2.2.2.2.2.2.2.2.2.2.1, x.2.2.2.2.2.2.2.2.2.2.2.2.2.2.2.2.1, x.2.2.2.2.2.2.2.2.2.2.2.2.2.2.2.2.2.1, x.2.2.2.2.2.2.2.2.2.2.2.2.2.2.2.2.2.2.1, x.2.2.2.2.2.2.2.2.2.2.2.2.2.2.2.2.2.2.2.1, x.2.2.2.2.2.2.2.2.2.2.2.2.2.2.2.2.2.2.2.2.1, x.2.2.2.2.2.2.2.2.2.2.2.2.2.2.2.2.2.2.2.2.2.1, x.2.2.2.2.2.2.2.2.2.2.2.2.2.2.2.2.2.2.2.2.2.2.1, x.2.2.2.2.2.2.2.2.2.2.2.2.2.2.2.2.2.2.2.2.2.2.2.1, x.2.2.2.2.2.2.2.2.2.2.2.2.2.2.2.2.2.2.2.2.2.2.2.2.1, x.2.2.2.2.2.2.2.2.2.2.2.2.2.2.2.2.2.2.2.2.2.2.2.2.2.1, x.2.2.2.2.2.2.2.2.2.2.2.2.2.2.2.2.2.2.2.2.2.2.2.2.2.2.1, x.2.2.2.2.2.2.2.2.2.2.2.2.2.2.2.2.2.2.2.2.2.2.2.2.2.2.2.1, x.2.2.2.2.2.2.2.2.2.2.2.2.2.2.2.2.2.2.2.2.2.2.2.2.2.2.2.2.1, x.2.2.2.2.2.2.2.2.2.2.2.2.2.2.2.2.2.2.2.2.2.2.2.2.2.2.2.2.2.2.2.1, x.2.2.2.2.2.2.2.2.2.2.2.2.2.2.2.2.2.2.2.2.2.2.2.2.2.2.2.2.2.2.2.2.1, x.2.2.2.2.2.2.2.2.2.2.2.2.2.2.2.2.2.2.2.2.2.2.2.2.2.2.2.2.2.2.2.2.2.1, x.2.2.2.2.2.2.2.2.2.2.2.2.2.2.2.2.2.2.2.2.2.2.2.2.2.2.2.2.2.2.2.2.2.2.1, x.2.2.2.2.2.2.2.2.2.2.2.2.2.2.2.2.2.2.2.2.2.2.2.2.2.2.2.2.2.2.2.2.2.2.2.1, x.2.2.2.2.2.2.2.2.2.2.2.2.2.2.2.2.2.2.2.2.2.2.2.2.2.2.2.2.2.2.2.2.2.2.2.2.1, x.2.2.2.2.2.2.2.2.2.2.2.2.2.2.2.2.2.2.2.2.2.2.2.2.2.2.2.2.2.2.2.2.2.2.2.2.2.1, x.2.2.2.2.2.2.2.2.2.2.2.2.2.2.2.2.2.2.2.2.2.2.2.2.2.2.2.2.2.2.2.2.2.2.2.2.2.2.1, x.2.2.2.2.2.2.2.2.2.2.2.2.2.2.2.2.2.2.2.2.2.2.2.2.2.2.2.2.2.2.2.2.2.2.2.2.2.2.2.1, x.2.2.2.2.2.2.2.2.2.2.2.2.2.2.2.2.2.2.2.2.2.2.2.2.2.2.2.2.2.2.2.2.2.2.2.2.2.2.2.2.1, x.2.2.2.2.2.2.2.2.2.2.2.2.2.2.2.2.2.2.2.2.2.2.2.2.2.2.2.2.2.2.2.2.2.2.2.2.2.2.2.2.2.1, x.2.2.2.2.2.2.2.2.2.2.2.2.2.2.2.2.2.2.2.2.2.2.2.2.2.2.2.2.2.2.2.2.2.2.2.2.2.2.2.2.2.2.1, x.2.2.2.2.2.2.2.2.2.2.2.2.2.2.2.2.2.2.2.2.2.2.2.2.2.2.2.2.2.2.2.2.2.2.2.2.2.2.2.2.2.2.2.1, x.2.2.2.2.2.2.2.2.2.2.2.2.2.2.2.2.2.2.2.2.2.2.2.2.2.2.2.2.2.1, x.2.2.2.2.2.2.2.2.2.2.2.2.2.2.2.2.2.2.2.2.2.2.2.2.2.2.2.2.2.2.1, ())
noncomputable def p_law21_MsgChecks_l11v2_go : Go' ((Int × Int × Int × Int × Int × Int × Int × Int × Int × Int × Int × List Int × List Int × List Int × Int × Int × Int × Int × Int × Int × Int × Int × Int × Nat × Nat × Nat × Nat × Nat × Nat × Nat × List Int × Nat × List Int × Nat × List Int × Nat × List Int × Nat × List Int × Nat × List Int × Unit)) := fun y K => K (.exit 2) { tmps := [.one .any, .one .any, .one (.sc (.ptr 0 0 none)), .one .any, .one .any, .one .any, .one (.sc (.ptr 1 0 none)), .one .any, .one .any, .one .any, .one .any, .one .any, .one .any, .one .any, .one .any, .one .any, .one .any, .one .any, .one .any, .one .any, .one .any, .one .any, .one .any, .one .any, .one .any, .one .any, .one .any, .one .any, .one .any, .one .any, .one .any, .one .any, .one .any, .one .any, .one .any, .one .any, .one .any, .one .any, .one .any, .one .any, .one .any, .one .any, .one .any, .one .any, .one .any, .one .any, .one .any, .one .any, .one .any, .one .any, .one .any, .one (.sc (.vec 2 3 1)), .one (.sc (.int .i64 y.1)), .one (.sc (.int .i64 y.2.1)), .one .any, .one .any, .one .any, .one .any, .one .any, .one .any, .one .any, .one .any, .one .any, .one .any, .one .any, .one .any, .one .any, .one .any, .one .any, .one .any, .one .any, .one .any, .one .any, .one .any, .one .any, .one .any, .one .any, .one .any], mem := [.live { segs := [.one (.int .i64 y.2.2.1), .one (.int .i64 y.2.2.2.1), .one (.int .i64 y.2.2.2.2.1), .one (.int .u32 y.2.2.2.2.2.1), .one (.int .u32 y.2.2.2.2.2.2.1), .one (.int .u64 y.2.2.2.2.2.2.2.1), .one (.int .u64 y.2.2.2.2.2.2.2.2.1), .one (.int .i64 y.2.2.2.2.2.2.2.2.2.1), .one (.int .i64 y.2.2.2.2.2.2.2.2.2.2.1), .one (.fr (.xs (.int .u8) y.2.2.2.2.2.2.2.2.2.2.2.1)), .one (.fr (.xs (.int .u8) y.2.2.2.2.2.2.2.2.2.2.2.2.1)), .one (.fr (.xs (.int .u8) y.2.2.2.2.2.2.2.2.2.2.2.2.2.1))], own := .own }, .live { segs := [.one (.int .i64 y.2.2.2.2.2.2.2.2.2.2.2.2.2.2.1), .one (.int .i64 y.2.2.2.2.2.2.2.2.2.2.2.2.2.2.2.1), .one (.int .i64 y.2.2.2.2.2.2.2.2.2.2.2.2.2.2.2.2.1), .one (.int .u32 y.2.2.2.2.2.2.2.2.2.2.2.2.2.2.2.2.2.1), .one (.int .u32 y.2.2.2.2.2.2.2.2.2.2.2.2.2.2.2.2.2.2.1), .one (.int .u64 y.2.2.2.2.2.2.2.2.2.2.2.2.2.2.2.2.2.2.2.1), .one (.int .u64 y.2.2.2.2.2.2.2.2.2.2.2.2.2.2.2.2.2.2.2.2.1), .one (.int .i64 y.2.2.2.2.2.2.2.2.2.2.2.2.2.2.2.2.2.2.2.2.2.1), .one (.int .i64 y.2.2.2.2.2.2.2.2.2.2.2.2.2.2.2.2.2.2.2.2.2.2.1), .one (.vec 3 y.2.2.2.2.2.2.2.2.2.2.2.2.2.2.2.2.2.2.2.2.2.2.2.1 1), .one (.vec 4 y.2.2.2.2.2.2.2.2.2.2.2.2.2.2.2.2.2.2.2.2.2.2.2.2.1 1), .one (.vec 5 y.2.2.2.2.2.2.2.2.2.2.2.2.2.2.2.2.2.2.2.2.2.2.2.2.2.1 1)], own := .own }, .live { segs := [.one (.vec 6 y.2.2.2.2.2.2.2.2.2.2.2.2.2.2.2.2.2.2.2.2.2.2.2.2.2.2.1 1), .one (.vec 7 y.2.2.2.2.2.2.2.2.2.2.2.2.2.2.2.2.2.2.2.2.2.2.2.2.2.2.2.1 1), .one (.vec 8 y.2.2.2.2.2.2.2.2.2.2.2.2.2.2.2.2.2.2.2.2.2.2.2.2.2.2.2.2.1 1)], own := .own }, .live { segs := [.xs (.int .u8) y.2.2.2.2.2.2.2.2.2.2.2.2.2.2.2.2.2.2.2.2.2.2.2.2.2.2.2.2.2.1 y.2.2.2.2.2.2.2.2.2.2.2.2.2.2.2.2.2.2.2.2.2.2.2.2.2.2.2.2.2.2.1], own := .own }, .live { segs := [.xs (.int .u8) y.2.2.2.2.2.2.2.2.2.2.2.2.2.2.2.2.2.2.2.2.2.2.2.2.2.2.2.2.2.2.2.1 y.2.2.2.2.2.2.2.2.2.2.2.2.2.2.2.2.2.2.2.2.2.2.2.2.2.2.2.2.2.2.2.2.1], own := .own }, .live { segs := [.xs (.int .u8) y.2.2.2.2.2.2.2.2.2.2.2.2.2.2.2.2.2.2.2.2.2.2.2.2.2.2.2.2.2.2.2.2.2.1 y.2.2.2.2.2.2.2.2.2.2.2.2.2.2.2.2.2.2.2.2.2.2.2.2.2.2.2.2.2.2.2.2.2.2.1], own := .own }, .live { segs := [.xs (.int .u8) y.2.2.2.2.2.2.2.2.2.2.2.2.2.2.2.2.2.2.2.2.2.2.2.2.2.2.2.2.2.2.2.2.2.2.2.1 y.2.2.2.2.2.2.2.2.2.2.2.2.2.2.2.2.2.2.2.2.2.2.2.2.2.2.2.2.2.2.2.2.2.2.2.2.1], own := .own }, .live { segs := [.xs (.int .u8) y.2.2.2.2.2.2.2.2.2.2.2.2.2.2.2.2.2.2.2.2.2.2.2.2.2.2.2.2.2.2.2.2.2.2.2.2.2.1 y.2.2.2.2.2.2.2.2.2.2.2.2.2.2.2.2.2.2.2.2.2.2.2.2.2.2.2.2.2.2.2.2.2.2.2.2.2.2.1], own := .own }, .live { segs := [.xs (.int .u8) y.2.2.2.2.2.2.2.2.2.2.2.2.2.2.2.2.2.2.2.2.2.2.2.2.2.2.2.2.2.2.2.2.2.2.2.2.2.2.2.1 y.2.2.2.2.2.2.2.2.2.2.2.2.2.2.2.2.2.2.2.2.2.2.2.2.2.2.2.2.2.2.2.2.2.2.2.2.2.2.2.2.1], own := .own }] }
theorem p_law21_MsgChecks_l11v2_e (N : Nat) : EntryOk p_law21_MsgChecks_E p_law21_MsgChecks_H N (loopE p_law21_MsgChecks_l11v2_S N (p_law21_MsgChecks_l11v2_F N) p_law21_MsgChecks_l11v2_go) (.loop (theLoop 11 p_law21_MsgChecks_c)) :=
  loopOk (body := p_law21_MsgChecks_c) (k := 11) (c := theLoop 11 p_law21_MsgChecks_c) (OkAll.nil) (by kernel_rfl) (fun x => by kernel_rfl) (fun β x kn ke => by kernel_rfl)
noncomputable def p_law21_MsgChecks_l11v2_L (N : Nat) : LT := upd (LT.nil) 11 (orE p_law21_MsgChecks_l11_S (loopE p_law21_MsgChecks_l11_S N (p_law21_MsgChecks_l11_F N) p_law21_MsgChecks_l11_go) (orE p_law21_MsgChecks_l11v1_S (loopE p_law21_MsgChecks_l11v1_S N (p_law21_MsgChecks_l11v1_F N) p_law21_MsgChecks_l11v1_go) (loopE p_law21_MsgChecks_l11v2_S N (p_law21_MsgChecks_l11v2_F N) p_law21_MsgChecks_l11v2_go)))
theorem p_law21_MsgChecks_l11v2_ok (N : Nat) : OkAll p_law21_MsgChecks_E p_law21_MsgChecks_H N (p_law21_MsgChecks_l11v2_L N) (subs p_law21_MsgChecks_c) :=
  addLoops (OkAll.nil) (by kernel_rfl) (((p_law21_MsgChecks_l11_e N).or (((p_law21_MsgChecks_l11v1_e N).or (p_law21_MsgChecks_l11v2_e N)))))
noncomputable def p_law21_MsgChecks_l8_S : Shape where
  h := { tmps := [.any, .any, .sc (.ptr 0 0 false), .any, .any, .any, .sc (.ptr 1 0 false), .any, .any, .any, .any, .any, .any, .any, .any, .any, .any, .any, .any, .any, .any, .any, .any, .any, .any, .any, .any, .any, .any, .any, .any, .any, .any, .any, .any, .any, .any, .any, .any, .any, .any, .any, .any, .any, .any, .any, .any, .any, .any, .any, .any, .sc (.vec 2 (some 3) 1), .sc (.int .i64), .sc (.int .i64), .any, .any, .any, .any, .any, .any, .any, .any, .any, .any, .any, .any, .any, .any, .any, .any, .any, .any, .any, .any, .any, .any, .any, .any], mem := [.live [.one (.int .i64), .one (.int .i64), .one (.int .i64), .one (.int .u32), .one (.int .u32), .one (.int .u64), .one (.int .u64), .one (.int .i64), .one (.int .i64), .one (.fr (.int .u8)), .one (.fr (.int .u8)), .one (.fr (.int .u8))] (.own), .live [.one (.int .i64), .one (.int .i64), .one (.int .i64), .one (.int .u32), .one (.int .u32), .one (.int .u64), .one (.int .u64), .one (.int .i64), .one (.int .i64), .one (.vec 3 none 1), .one (.vec 4 none 1), .one (.vec 5 none 1)] (.own), .live [.one (.vec 6 none 1), .one (.vec 7 none 1), .one (.vec 8 none 1)] (.own), .live [.xs (.int .u8) none] (.own), .live [.xs (.int .u8) none] (.own), .live [.xs (.int .u8) none] (.own), .live [.xs (.int .u8) none] (.own), .live [.xs (.int .u8) none] (.own), .live [.xs (.int .u8) none] (.own)] }
  ks := [.int, .int, .int, .int, .int, .int, .int, .int, .int, .int, .int, .xs, .xs, .xs, .int, .int, .int, .int, .int, .int, .int, .int, .int, .nat, .nat, .nat, .nat, .nat, .nat, .nat, .xs, .nat, .xs, .nat, .xs, .nat, .xs, .nat, .xs, .nat, .xs]
  st := fun x => { tmps := [.one .any, .one .any, .one (.sc (.ptr 0 0 none)), .one .any, .one .any, .one .any, .one (.sc (.ptr 1 0 none)), .one .any, .one .any, .one .any, .one .any, .one .any, .one .any, .one .any, .one .any, .one .any, .one .any, .one .any, .one .any, .one .any, .one .any, .one .any, .one .any, .one .any, .one .any, .one .any, .one .any, .one .any, .one .any, .one .any, .one .any, .one .any, .one .any, .one .any, .one .any, .one .any, .one .any, .one .any, .one .any, .one .any, .one .any, .one .any, .one .any, .one .any, .one .any, .one .any, .one .any, .one .any, .one .any, .one .any, .one .any, .one (.sc (.vec 2 3 1)), .one (.sc (.int .i64 x.1)), .one (.sc (.int .i64 x.2.1)), .one .any, .one .any, .one .any, .one .any, .one .any, .one .any, .one .any, .one .any, .one .any, .one .any, .one .any, .one .any, .one .any, .one .any, .one .any, .one .any, .one .any, .one .any, .one .any, .one .any, .one .any, .one .any, .one .any, .one .any], mem := [.live { segs := [.one (.int .i64 x.2.2.1), .one (.int .i64 x.2.2.2.1), .one (.int .i64 x.2.2.2.2.1), .one (.int .u32 x.2.2.2.2.2.1), .one (.int .u32 x.2.2.2.2.2.2.1), .one (.int .u64 x.2.2.2.2.2.2.2.1), .one (.int .u64 x.2.2.2.2.2.2.2.2.1), .one (.int .i64 x.2.2.2.2.2.2.2.2.2.1), .one (.int .i64 x.2.2.2.2.2.2.2.2.2.2.1), .one (.fr (.xs (.int .u8) x.2.2.2.2.2.2.2.2.2.2.2.1)), .one (.fr (.xs (.int .u8) x.2.2.2.2.2.2.2.2.2.2.2.2.1)), .one (.fr (.xs (.int .u8) x.2.2.2.2.2.2.2.2.2.2.2.2.2.1))], own := .own }, .live { segs := [.one (.int .i64 x.2.2.2.2.2.2.2.2.2.2.2.2.2.2.1), .one (.int .i64 x.2.2.2.2.2.2.2.2.2.2.2.2.2.2.2.1), .one (.int .i64 x.2.2.2.2.2.2.2.2.2.2.2.2.2.2.2.2.1), .one (.int .u32 x.2.2.2.2.2.2.2.2.2.2.2.2.2.2.2.2.2.1), .one (.int .u32 x.2.2.2.2.2.2.2.2.2.2.2.2.2.2.2.2.2.2.1), .one (.int .u64 x.2.2.2.2.2.2.2.2.2.2.2.2.2.2.2.2.2.2.2.1), .one (.int .u64 x.2.2.2.2.2.2.2.2.2.2.2.2.2.2.2.2.2.2.2.2.1), .one (.int .i64 x.2.2.2.2.2.2.2.2.2.2.2.2.2.2.2.2.2.2.2.2.2.1), .one (.int .i64 x.2.2.2.2.2.2.2.2.2.2.2.2.2.2.2.2.2.2.2.2.2.2.1), .one (.vec 3 x.2.2.2.2.2.2.2.2.2.2.2.2.2.2.2.2.2.2.2.2.2.2.2.1 1), .one (.vec 4 x.2.2.2.2.2.2.2.2.2.2.2.2.2.2.2.2.2.2.2.2.2.2.2.2.1 1), .one (.vec 5 x.2.2.2.2.2.2.2.2.2.2.2.2.2.2.2.2.2.2.2.2.2.2.2.2.2.1 1)], own := .own }, .live { segs := [.one (.vec 6 x.2.2.2.2.2.2.2.2.2.2.2.2.2.2.2.2.2.2.2.2.2.2.2.2.2.2.1 1), .one (.vec 7 x.2.2.2.2.2.2.2.2.2.2.2.2.2.2.2.2.2.2.2.2.2.2.2.2.2.2.2.1 1), .one (.vec 8 x.2.2.2.2.2.2.2.2.2.2.2.2.2.2.2.2.2.2.2.2.2.2.2.2.2.2.2.2.1 1)], own := .own }, .live { segs := [.xs (.int .u8) x.2.2.2.2.2.2.2.2.2.2.2.2.2.2.2.2.2.2.2.2.2.2.2.2.2.2.2.2.2.1 x.2.2.2.2.2.2.2.2.2.2.2.2.2.2.2.2.2.2.2.2.2.2.2.2.2.2.2.2.2.2.1], own := .own }, .live { segs := [.xs (.int .u8) x.2.2.2.2.2.2.2.2.2.2.2.2.2.2.2.2.2.2.2.2.2.2.2.2.2.2.2.2.2.2.2.1 x.2.2.2.2.2.2.2.2.2.2.2.2.2.2.2.2.2.2.2.2.2.2.2.2.2.2.2.2.2.2.2.2.1], own := .own }, .live { segs := [.xs (.int .u8) x.2.2.2.2.2.2.2.2.2.2.2.2.2.2.2.2.2.2.2.2.2.2.2.2.2.2.2.2.2.2.2.2.2.1 x.2.2.2.2.2.2.2.2.2.2.2.2.2.2.2.2.2.2.2.2.2.2.2.2.2.2.2.2.2.2.2.2.2.2.1], own := .own }, .live { segs := [.xs (.int .u8) x.2.2.2.2.2.2.2.2.2.2.2.2.2.2.2.2.2.2.2.2.2.2.2.2.2.2.2.2.2.2.2.2.2.2.2.1 x.2.2.2.2.2.2.2.2.2.2.2.2.2.2.2.2.2.2.2.2.2.2.2.2.2.2.2.2.2.2.2.2.2.2.2.2.1], own := .own }, .live { segs := [.xs (.int .u8) x.2.2.2.2.2.2.2.2.2.2.2.2.2.2.2.2.2.2.2.2.2.2.2.2.2.2.2.2.2.2.2.2.2.2.2.2.2.1 x.2.2.2.2.2.2.2.2.2.2.2.2.2.2.2.2.2.2.2.2.2.2.2.2.2.2.2.2.2.2.2.2.2.2.2.2.2.2.1], own := .own }, .live { segs := [.xs (.int .u8) x.2.2.2.2.2.2.2.2.2.2.2.2.2.2.2.2.2.2.2.2.2.2.2.2.2.2.2.2.2.2.2.2.2.2.2.2.2.2.2.1 x.2.2.2.2.2.2.2.2.2.2.2.2.2.2.2.2.2.2.2.2.2.2.2.2.2.2.2.2.2.2.2.2.2.2.2.2.2.2.2.2.1], own := .own }] }
noncomputable def p_law21_MsgChecks_l8_F (N : Nat) (β : Type) (x : (Int × Int × Int × Int × Int × Int × Int × Int × Int × Int × Int × List Int × List Int × List Int × Int × Int × Int × Int × Int × Int × Int × Int × Int × Nat × Nat × Nat × Nat × Nat × Nat × Nat × List Int × Nat × List Int × Nat × List Int × Nat × List Int × Nat × List Int × Nat × List Int × Unit)) (kn : (Int × Int × Int × Int × Int × Int × Int × Int × Int × Int × Int × List Int × List Int × List Int × Int × Int × Int × Int × Int × Int × Int × Int × Int × Nat × Nat × Nat × Nat × Nat × Nat × Nat × List Int × Nat × List Int × Nat × List Int × Nat × List Int × Nat × List Int × Nat × List Int × Unit) → Option β) (ke : ((Int × Int × Int × Int × Int × Int × Int × Int × Int × List Int × List Int × List Int × Int × Int × Int × Int × Int × Int × Int × Int × Int × Nat × Nat × Nat × Nat × List Int × Nat × List Int × Nat × List Int × Unit)) → Option β) : Option β :=
  if (x.2.1 < x.1) then
    if 0 ≤ x.2.1 then (
    if x.2.1 < (3:Int) then (
    if (x.2.1.toNat) = 0 then
      iter (p_law21_MsgChecks_l11_F N) N (x.2.2.2.2.2.2.2.2.2.2.2.2.2.2.2.2.2.2.2.2.2.2.2.2.2.2.1, x.1, x.2.1, ((x.2.2.2.2.2.2.2.2.2.2.2.2.2.2.2.2.2.2.2.2.2.2.2.2.2.2.1 : Nat) : Int), (0:Int), x.2.2.1, x.2.2.2.1, x.2.2.2.2.1, x.2.2.2.2.2.1, x.2.2.2.2.2.2.1, x.2.2.2.2.2.2.2.1, x.2.2.2.2.2.2.2.2.1, x.2.2.2.2.2.2.2.2.2.1, x.2.2.2.2.2.2.2.2.2.2.1, x.2.2.2.2.2.2.2.2.2.2.2.1, x.2.2.2.2.2.2.2.2.2.2.2.2.1, x.2.2.2.2.2.2.2.2.2.2.2.2.2.1, x.2.2.2.2.2.2.2.2.2.2.2.2.2.2.1, x.2.2.2.2.2.2.2.2.2.2.2.2.2.2.2.1, x.2.2.2.2.2.2.2.2.2.2.2.2.2.2.2.2.1, x.2.2.2.2.2.2.2.2.2.2.2.2.2.2.2.2.2.1, x.2.2.2.2.2.2.2.2.2.2.2.2.2.2.2.2.2.2.1, x.2.2.2.2.2.2.2.2.2.2.2.2.2.2.2.2.2.2.2.1, x.2.2.2.2.2.2.2.2.2.2.2.2.2.2.2.2.2.2.2.2.1, x.2.2.2.2.2.2.2.2.2.2.2.2.2.2.2.2.2.2.2.2.2.1, x.2.2.2.2.2.2.2.2.2.2.2.2.2.2.2.2.2.2.2.2.2.2.1, x.2.2.2.2.2.2.2.2.2.2.2.2.2.2.2.2.2.2.2.2.2.2.2.1, x.2.2.2.2.2.2.2.2.2.2.2.2.2.2.2.2.2.2.2.2.2.2.2.2.1, x.2.2.2.2.2.2.2.2.2.2.2.2.2.2.2.2.2.2.2.2.2.2.2.2.2.1, x.2.2.2.2.2.2.2.2.2.2.2.2.2.2.2.2.2.2.2.2.2.2.2.2.2.2.2.2.2.2.2.2.2.2.2.1, x.2.2.2.2.2.2.2.2.2.2.2.2.2.2.2.2.2.2.2.2.2.2.2.2.2.2.2.2.2.2.2.2.2.2.2.2.1, x.2.2.2.2.2.2.2.2.2.2.2.2.2.2.2.2.2.2.2.2.2.2.2.2.2.2.1, x.2.2.2.2.2.2.2.2.2.2.2.2.2.2.2.2.2.2.2.2.2.2.2.2.2.2.2.1, x.2.2.2.2.2.2.2.2.2.2.2.2.2.2.2.2.2.2.2.2.2.2.2.2.2.2.2.2.1, x.2.2.2.2.2.2.2.2.2.2.2.2.2.2.2.2.2.2.2.2.2.2.2.2.2.2.2.2.2.1, x.2.2.2.2.2.2.2.2.2.2.2.2.2.2.2.2.2.2.2.2.2.2.2.2.2.2.2.2.2.2.1, x.2.2.2.2.2.2.2.2.2.2.2.2.2.2.2.2.2.2.2.2.2.2.2.2.2.2.2.2.2.2.2.1, x.2.2.2.2.2.2.2.2.2.2.2.2.2.2.2.2.2.2.2.2.2.2.2.2.2.2.2.2.2.2.2.2.1, x.2.2.2.2.2.2.2.2.2.2.2.2.2.2.2.2.2.2.2.2.2.2.2.2.2.2.2.2.2.2.2.2.2.1, x.2.2.2.2.2.2.2.2.2.2.2.2.2.2.2.2.2.2.2.2.2.2.2.2.2.2.2.2.2.2.2.2.2.2.1, x.2.2.2.2.2.2.2.2.2.2.2.2.2.2.2.2.2.2.2.2.2.2.2.2.2.2.2.2.2.2.2.2.2.2.2.2.2.1, x.2.2.2.2.2.2.2.2.2.2.2.2.2.2.2.2.2.2.2.2.2.2.2.2.2.2.2.2.2.2.2.2.2.2.2.2.2.2.1, x.2.2.2.2.2.2.2.2.2.2.2.2.2.2.2.2.2.2.2.2.2.2.2.2.2.2.2.2.2.2.2.2.2.2.2.2.2.2.2.1, x.2.2.2.2.2.2.2.2.2.2.2.2.2.2.2.2.2.2.2.2.2.2.2.2.2.2.2.2.2.2.2.2.2.2.2.2.2.2.2.2.1, ()) fun y14 => (
      kn (y14.1, (IntKind.i64.wrap (y14.2.1 + (1:Int))), y14.2.2.1, y14.2.2.2.1, y14.2.2.2.2.1, y14.2.2.2.2.2.1, y14.2.2.2.2.2.2.1, y14.2.2.2.2.2.2.2.1, y14.2.2.2.2.2.2.2.2.1, y14.2.2.2.2.2.2.2.2.2.1, y14.2.2.2.2.2.2.2.2.2.2.1, y14.2.2.2.2.2.2.2.2.2.2.2.1, y14.2.2.2.2.2.2.2.2.2.2.2.2.1, y14.2.2.2.2.2.2.2.2.2.2.2.2.2.1, y14.2.2.2.2.2.2.2.2.2.2.2.2.2.2.1, y14.2.2.2.2.2.2.2.2.2.2.2.2.2.2.2.1, y14.2.2.2.2.2.2.2.2.2.2.2.2.2.2.2.2.1, y14.2.2.2.2.2.2.2.2.2.2.2.2.2.2.2.2.2.1, y14.2.2.2.2.2.2.2.2.2.2.2.2.2.2.2.2.2.2.1, y14.2.2.2.2.2.2.2.2.2.2.2.2.2.2.2.2.2.2.2.1, y14.2.2.2.2.2.2.2.2.2.2.2.2.2.2.2.2.2.2.2.2.1, y14.2.2.2.2.2.2.2.2.2.2.2.2.2.2.2.2.2.2.2.2.2.1, y14.2.2.2.2.2.2.2.2.2.2.2.2.2.2.2.2.2.2.2.2.2.2.1, y14.2.2.2.2.2.2.2.2.2.2.2.2.2.2.2.2.2.2.2.2.2.2.2.1, y14.2.2.2.2.2.2.2.2.2.2.2.2.2.2.2.2.2.2.2.2.2.2.2.2.1, y14.2.2.2.2.2.2.2.2.2.2.2.2.2.2.2.2.2.2.2.2.2.2.2.2.2.1, y14.2.2.2.2.2.2.2.2.2.2.2.2.2.2.2.2.2.2.2.2.2.2.2.2.2.2.1, y14.2.2.2.2.2.2.2.2.2.2.2.2.2.2.2.2.2.2.2.2.2.2.2.2.2.2.2.1, y14.2.2.2.2.2.2.2.2.2.2.2.2.2.2.2.2.2.2.2.2.2.2.2.2.2.2.2.2.1, y14.2.2.2.2.2.2.2.2.2.2.2.2.2.2.2.2.2.2.2.2.2.2.2.2.2.2.2.2.2.1, y14.2.2.2.2.2.2.2.2.2.2.2.2.2.2.2.2.2.2.2.2.2.2.2.2.2.2.2.2.2.2.1, y14.2.2.2.2.2.2.2.2.2.2.2.2.2.2.2.2.2.2.2.2.2.2.2.2.2.2.2.2.2.2.2.1, y14.2.2.2.2.2.2.2.2.2.2.2.2.2.2.2.2.2.2.2.2.2.2.2.2.2.2.2.2.2.2.2.2.1, y14.2.2.2.2.2.2.2.2.2.2.2.2.2.2.2.2.2.2.2.2.2.2.2.2.2.2.2.2.2.2.2.2.2.1, y14.2.2.2.2.2.2.2.2.2.2.2.2.2.2.2.2.2.2.2.2.2.2.2.2.2.2.2.2.2.2.2.2.2.2.1, y14.2.2.2.2.2.2.2.2.2.2.2.2.2.2.2.2.2.2.2.2.2.2.2.2.2.2.2.2.2.2.2.2.2.2.2.1, y14.2.2.2.2.2.2.2.2.2.2.2.2.2.2.2.2.2.2.2.2.2.2.2.2.2.2.2.2.2.2.2.2.2.2.2.2.1, y14.2.2.2.2.2.2.2.2.2.2.2.2.2.2.2.2.2.2.2.2.2.2.2.2.2.2.2.2.2.2.2.2.2.2.2.2.2.1, y14.2.2.2.2.2.2.2.2.2.2.2.2.2.2.2.2.2.2.2.2.2.2.2.2.2.2.2.2.2.2.2.2.2.2.2.2.2.2.1, y14.2.2.2.2.2.2.2.2.2.2.2.2.2.2.2.2.2.2.2.2.2.2.2.2.2.2.2.2.2.2.2.2.2.2.2.2.2.2.2.1, y14.2.2.2.2.2.2.2.2.2.2.2.2.2.2.2.2.2.2.2.2.2.2.2.2.2.2.2.2.2.2.2.2.2.2.2.2.2.2.2.2.1, ()))
    else
      if (x.2.1.toNat) = 1 then
        iter (p_law21_MsgChecks_l11v1_F N) N (x.2.2.2.2.2.2.2.2.2.2.2.2.2.2.2.2.2.2.2.2.2.2.2.2.2.2.2.1, x.1, x.2.1, ((x.2.2.2.2.2.2.2.2.2.2.2.2.2.2.2.2.2.2.2.2.2.2.2.2.2.2.2.1 : Nat) : Int), (0:Int), x.2.2.1, x.2.2.2.1, x.2.2.2.2.1, x.2.2.2.2.2.1, x.2.2.2.2.2.2.1, x.2.2.2.2.2.2.2.1, x.2.2.2.2.2.2.2.2.1, x.2.2.2.2.2.2.2.2.2.1, x.2.2.2.2.2.2.2.2.2.2.1, x.2.2.2.2.2.2.2.2.2.2.2.1, x.2.2.2.2.2.2.2.2.2.2.2.2.1, x.2.2.2.2.2.2.2.2.2.2.2.2.2.1, x.2.2.2.2.2.2.2.2.2.2.2.2.2.2.1, x.2.2.2.2.2.2.2.2.2.2.2.2.2.2.2.1, x.2.2.2.2.2.2.2.2.2.2.2.2.2.2.2.2.1, x.2.2.2.2.2.2.2.2.2.2.2.2.2.2.2.2.2.1, x.2.2.2.2.2.2.2.2.2.2.2.2.2.2.2.2.2.2.1, x.2.2.2.2.2.2.2.2.2.2.2.2.2.2.2.2.2.2.2.1, x.2.2.2.2.2.2.2.2.2.2.2.2.2.2.2.2.2.2.2.2.1, x.2.2.2.2.2.2.2.2.2.2.2.2.2.2.2.2.2.2.2.2.2.1, x.2.2.2.2.2.2.2.2.2.2.2.2.2.2.2.2.2.2.2.2.2.2.1, x.2.2.2.2.2.2.2.2.2.2.2.2.2.2.2.2.2.2.2.2.2.2.2.1, x.2.2.2.2.2.2.2.2.2.2.2.2.2.2.2.2.2.2.2.2.2.2.2.2.1, x.2.2.2.2.2.2.2.2.2.2.2.2.2.2.2.2.2.2.2.2.2.2.2.2.2.1, x.2.2.2.2.2.2.2.2.2.2.2.2.2.2.2.2.2.2.2.2.2.2.2.2.2.2.2.2.2.2.2.2.2.2.2.2.2.1, x.2.2.2.2.2.2.2.2.2.2.2.2.2.2.2.2.2.2.2.2.2.2.2.2.2.2.2.2.2.2.2.2.2.2.2.2.2.2.1, x.2.2.2.2.2.2.2.2.2.2.2.2.2.2.2.2.2.2.2.2.2.2.2.2.2.2.1, x.2.2.2.2.2.2.2.2.2.2.2.2.2.2.2.2.2.2.2.2.2.2.2.2.2.2.2.1, x.2.2.2.2.2.2.2.2.2.2.2.2.2.2.2.2.2.2.2.2.2.2.2.2.2.2.2.2.1, x.2.2.2.2.2.2.2.2.2.2.2.2.2.2.2.2.2.2.2.2.2.2.2.2.2.2.2.2.2.1, x.2.2.2.2.2.2.2.2.2.2.2.2.2.2.2.2.2.2.2.2.2.2.2.2.2.2.2.2.2.2.1, x.2.2.2.2.2.2.2.2.2.2.2.2.2.2.2.2.2.2.2.2.2.2.2.2.2.2.2.2.2.2.2.1, x.2.2.2.2.2.2.2.2.2.2.2.2.2.2.2.2.2.2.2.2.2.2.2.2.2.2.2.2.2.2.2.2.1, x.2.2.2.2.2.2.2.2.2.2.2.2.2.2.2.2.2.2.2.2.2.2.2.2.2.2.2.2.2.2.2.2.2.1, x.2.2.2.2.2.2.2.2.2.2.2.2.2.2.2.2.2.2.2.2.2.2.2.2.2.2.2.2.2.2.2.2.2.2.1, x.2.2.2.2.2.2.2.2.2.2.2.2.2.2.2.2.2.2.2.2.2.2.2.2.2.2.2.2.2.2.2.2.2.2.2.1, x.2.2.2.2.2.2.2.2.2.2.2.2.2.2.2.2.2.2.2.2.2.2.2.2.2.2.2.2.2.2.2.2.2.2.2.2.1, x.2.2.2.2.2.2.2.2.2.2.2.2.2.2.2.2.2.2.2.2.2.2.2.2.2.2.2.2.2.2.2.2.2.2.2.2.2.2.2.1, x.2.2.2.2.2.2.2.2.2.2.2.2.2.2.2.2.2.2.2.2.2.2.2.2.2.2.2.2.2.2.2.2.2.2.2.2.2.2.2.2.1, ()) fun y15 => (
        kn (y15.1, (IntKind.i64.wrap (y15.2.1 + (1:Int))), y15.2.2.1, y15.2.2.2.1, y15.2.2.2.2.1, y15.2.2.2.2.2.1, y15.2.2.2.2.2.2.1, y15.2.2.2.2.2.2.2.1, y15.2.2.2.2.2.2.2.2.1, y15.2.2.2.2.2.2.2.2.2.1, y15.2.2.2.2.2.2.2.2.2.2.1, y15.2.2.2.2.2.2.2.2.2.2.2.1, y15.2.2.2.2.2.2.2.2.2.2.2.2.1, y15.2.2.2.2.2.2.2.2.2.2.2.2.2.1, y15.2.2.2.2.2.2.2.2.2.2.2.2.2.2.1, y15.2.2.2.2.2.2.2.2.2.2.2.2.2.2.2.1, y15.2.2.2.2.2.2.2.2.2.2.2.2.2.2.2.2.1, y15.2.2.2.2.2.2.2.2.2.2.2.2.2.2.2.2.2.1, y15.2.2.2.2.2.2.2.2.2.2.2.2.2.2.2.2.2.2.1, y15.2.2.2.2.2.2.2.2.2.2.2.2.2.2.2.2.2.2.2.1, y15.2.2.2.2.2.2.2.2.2.2.2.2.2.2.2.2.2.2.2.2.1, y15.2.2.2.2.2.2.2.2.2.2.2.2.2.2.2.2.2.2.2.2.2.1, y15.2.2.2.2.2.2.2.2.2.2.2.2.2.2.2.2.2.2.2.2.2.2.1, y15.2.2.2.2.2.2.2.2.2.2.2.2.2.2.2.2.2.2.2.2.2.2.2.1, y15.2.2.2.2.2.2.2.2.2.2.2.2.2.2.2.2.2.2.2.2.2.2.2.2.1, y15.2.2.2.2.2.2.2.2.2.2.2.2.2.2.2.2.2.2.2.2.2.2.2.2.2.1, y15.2.2.2.2.2.2.2.2.2.2.2.2.2.2.2.2.2.2.2.2.2.2.2.2.2.2.1, y15.2.2.2.2.2.2.2.2.2.2.2.2.2.2.2.2.2.2.2.2.2.2.2.2.2.2.2.1, y15.2.2.2.2.2.2.2.2.2.2.2.2.2.2.2.2.2.2.2.2.2.2.2.2.2.2.2.2.1, y15.2.2.2.2.2.2.2.2.2.2.2.2.2.2.2.2.2.2.2.2.2.2.2.2.2.2.2.2.2.1, y15.2.2.2.2.2.2.2.2.2.2.2.2.2.2.2.2.2.2.2.2.2.2.2.2.2.2.2.2.2.2.1, y15.2.2.2.2.2.2.2.2.2.2.2.2.2.2.2.2.2.2.2.2.2.2.2.2.2.2.2.2.2.2.2.1, y15.2.2.2.2.2.2.2.2.2.2.2.2.2.2.2.2.2.2.2.2.2.2.2.2.2.2.2.2.2.2.2.2.1, y15.2.2.2.2.2.2.2.2.2.2.2.2.2.2.2.2.2.2.2.2.2.2.2.2.2.2.2.2.2.2.2.2.2.1, y15.2.2.2.2.2.2.2.2.2.2.2.2.2.2.2.2.2.2.2.2.2.2.2.2.2.2.2.2.2.2.2.2.2.2.1, y15.2.2.2.2.2.2.2.2.2.2.2.2.2.2.2.2.2.2.2.2.2.2.2.2.2.2.2.2.2.2.2.2.2.2.2.1, y15.2.2.2.2.2.2.2.2.2.2.2.2.2.2.2.2.2.2.2.2.2.2.2.2.2.2.2.2.2.2.2.2.2.2.2.2.1, y15.2.2.2.2.2.2.2.2.2.2.2.2.2.2.2.2.2.2.2.2.2.2.2.2.2.2.2.2.2.2.2.2.2.2.2.2.2.1, y15.2.2.2.2.2.2.2.2.2.2.2.2.2.2.2.2.2.2.2.2.2.2.2.2.2.2.2.2.2.2.2.2.2.2.2.2.2.2.1, y15.2.2.2.2.2.2.2.2.2.2.2.2.2.2.2.2.2.2.2.2.2.2.2.2.2.2.2.2.2.2.2.2.2.2.2.2.2.2.2.1, y15.2.2.2.2.2.2.2.2.2.2.2.2.2.2.2.2.2.2.2.2.2.2.2.2.2.2.2.2.2.2.2.2.2.2.2.2.2.2.2.2.1, ()))
      else
        if (x.2.1.toNat) = 2 then (
        iter (p_law21_MsgChecks_l11v2_F N) N (x.2.2.2.2.2.2.2.2.2.2.2.2.2.2.2.2.2.2.2.2.2.2.2.2.2.2.2.2.1, x.1, x.2.1, ((x.2.2.2.2.2.2.2.2.2.2.2.2.2.2.2.2.2.2.2.2.2.2.2.2.2.2.2.2.1 : Nat) : Int), (0:Int), x.2.2.1, x.2.2.2.1, x.2.2.2.2.1, x.2.2.2.2.2.1, x.2.2.2.2.2.2.1, x.2.2.2.2.2.2.2.1, x.2.2.2.2.2.2.2.2.1, x.2.2.2.2.2.2.2.2.2.1, x.2.2.2.2.2.2.2.2.2.2.1, x.2.2.2.2.2.2.2.2.2.2.2.1, x.2.2.2.2.2.2.2.2.2.2.2.2.1, x.2.2.2.2.2.2.2.2.2.2.2.2.2.1, x.2.2.2.2.2.2.2.2.2.2.2.2.2.2.1, x.2.2.2.2.2.2.2.2.2.2.2.2.2.2.2.1, x.2.2.2.2.2.2.2.2.2.2.2.2.2.2.2.2.1, x.2.2.2.2.2.2.2.2.2.2.2.2.2.2.2.2.2.1, x.2.2.2.2.2.2.2.2.2.2.2.2.2.2.2.2.2.2.1, x.2.2.2.2.2.2.2.2.2.2.2.2.2.2.2.2.2.2.2.1, x.2.2.2.2.2.2.2.2.2.2.2.2.2.2.2.2.2.2.2.2.1, x.2.2.2.2.2.2.2.2.2.2.2.2.2.2.2.2.2.2.2.2.2.1, x.2.2.2.2.2.2.2.2.2.2.2.2.2.2.2.2.2.2.2.2.2.2.1, x.2.2.2.2.2.2.2.2.2.2.2.2.2.2.2.2.2.2.2.2.2.2.2.1, x.2.2.2.2.2.2.2.2.2.2.2.2.2.2.2.2.2.2.2.2.2.2.2.2.1, x.2.2.2.2.2.2.2.2.2.2.2.2.2.2.2.2.2.2.2.2.2.2.2.2.2.1, x.2.2.2.2.2.2.2.2.2.2.2.2.2.2.2.2.2.2.2.2.2.2.2.2.2.2.2.2.2.2.2.2.2.2.2.2.2.2.2.1, x.2.2.2.2.2.2.2.2.2.2.2.2.2.2.2.2.2.2.2.2.2.2.2.2.2.2.2.2.2.2.2.2.2.2.2.2.2.2.2.2.1, x.2.2.2.2.2.2.2.2.2.2.2.2.2.2.2.2.2.2.2.2.2.2.2.2.2.2.1, x.2.2.2.2.2.2.2.2.2.2.2.2.2.2.2.2.2.2.2.2.2.2.2.2.2.2.2.1, x.2.2.2.2.2.2.2.2.2.2.2.2.2.2.2.2.2.2.2.2.2.2.2.2.2.2.2.2.1, x.2.2.2.2.2.2.2.2.2.2.2.2.2.2.2.2.2.2.2.2.2.2.2.2.2.2.2.2.2.1, x.2.2.2.2.2.2.2.2.2.2.2.2.2.2.2.2.2.2.2.2.2.2.2.2.2.2.2.2.2.2.1, x.2.2.2.2.2.2.2.2.2.2.2.2.2.2.2.2.2.2.2.2.2.2.2.2.2.2.2.2.2.2.2.1, x.2.2.2.2.2.2.2.2.2.2.2.2.2.2.2.2.2.2.2.2.2.2.2.2.2.2.2.2.2.2.2.2.1, x.2.2.2.2.2.2.2.2.2.2.2.2.2.2.2.2.2.2.2.2.2.2.2.2.2.2.2.2.2.2.2.2.2.1, x.2.2.2.2.2.2.2.2.2.2.2.2.2.2.2.2.2.2.2.2.2.2.2.2.2.2.2.2.2.2.2.2.2.2.1, x.2.2.2.2.2.2.2.2.2.2.2.2.2.2.2.2.2.2.2.2.2.2.2.2.2.2.2.2.2.2.2.2.2.2.2.1, x.2.2.2.2.2.2.2.2.2.2.2.2.2.2.2.2.2.2.2.2.2.2.2.2.2.2.2.2.2.2.2.2.2.2.2.2.1, x.2.2.2.2.2.2.2.2.2.2.2.2.2.2.2.2.2.2.2.2.2.2.2.2.2.2.2.2.2.2.2.2.2.2.2.2.2.1, x.2.2.2.2.2.2.2.2.2.2.2.2.2.2.2.2.2.2.2.2.2.2.2.2.2.2.2.2.2.2.2.2.2.2.2.2.2.2.1, ()) fun y16 => (
        kn (y16.1, (IntKind.i64.wrap (y16.2.1 + (1:Int))), y16.2.2.1, y16.2.2.2.1, y16.2.2.2.2.1, y16.2.2.2.2.2.1, y16.2.2.2.2.2.2.1, y16.2.2.2.2.2.2.2.1, y16.2.2.2.2.2.2.2.2.1, y16.2.2.2.2.2.2.2.2.2.1, y16.2.2.2.2.2.2.2.2.2.2.1, y16.2.2.2.2.2.2.2.2.2.2.2.1, y16.2.2.2.2.2.2.2.2.2.2.2.2.1, y16.2.2.2.2.2.2.2.2.2.2.2.2.2.1, y16.2.2.2.2.2.2.2.2.2.2.2.2.2.2.1, y16.2.2.2.2.2.2.2.2.2.2.2.2.2.2.2.1, y16.2.2.2.2.2.2.2.2.2.2.2.2.2.2.2.2.1, y16.2.2.2.2.2.2.2.2.2.2.2.2.2.2.2.2.2.1, y16.2.2.2.2.2.2.2.2.2.2.2.2.2.2.2.2.2.2.1, y16.2.2.2.2.2.2.2.2.2.2.2.2.2.2.2.2.2.2.2.1, y16.2.2.2.2.2.2.2.2.2.2.2.2.2.2.2.2.2.2.2.2.1, y16.2.2.2.2.2.2.2.2.2.2.2.2.2.2.2.2.2.2.2.2.2.1, y16.2.2.2.2.2.2.2.2.2.2.2.2.2.2.2.2.2.2.2.2.2.2.1, y16.2.2.2.2.2.2.2.2.2.2.2.2.2.2.2.2.2.2.2.2.2.2.2.1, y16.2.2.2.2.2.2.2.2.2.2.2.2.2.2.2.2.2.2.2.2.2.2.2.2.1, y16.2.2.2.2.2.2.2.2.2.2.2.2.2.2.2.2.2.2.2.2.2.2.2.2.2.1, y16.2.2.2.2.2.2.2.2.2.2.2.2.2.2.2.2.2.2.2.2.2.2.2.2.2.2.1, y16.2.2.2.2.2.2.2.2.2.2.2.2.2.2.2.2.2.2.2.2.2.2.2.2.2.2.2.1, y16.2.2.2.2.2.2.2.2.2.2.2.2.2.2.2.2.2.2.2.2.2.2.2.2.2.2.2.2.1, y16.2.2.2.2.2.2.2.2.2.2.2.2.2.2.2.2.2.2.2.2.2.2.2.2.2.2.2.2.2.1, y16.2.2.2.2.2.2.2.2.2.2.2.2.2.2.2.2.2.2.2.2.2.2.2.2.2.2.2.2.2.2.1, y16.2.2.2.2.2.2.2.2.2.2.2.2.2.2.2.2.2.2.2.2.2.2.2.2.2.2.2.2.2.2.2.1, y16.2.2.2.2.2.2.2.2.2.2.2.2.2.2.2.2.2.2.2.2.2.2.2.2.2.2.2.2.2.2.2.2.1, y16.2.2.2.2.2.2.2.2.2.2.2.2.2.2.2.2.2.2.2.2.2.2.2.2.2.2.2.2.2.2.2.2.2.1, y16.2.2.2.2.2.2.2.2.2.2.2.2.2.2.2.2.2.2.2.2.2.2.2.2.2.2.2.2.2.2.2.2.2.2.1, y16.2.2.2.2.2.2.2.2.2.2.2.2.2.2.2.2.2.2.2.2.2.2.2.2.2.2.2.2.2.2.2.2.2.2.2.1, y16.2.2.2.2.2.2.2.2.2.2.2.2.2.2.2.2.2.2.2.2.2.2.2.2.2.2.2.2.2.2.2.2.2.2.2.2.1, y16.2.2.2.2.2.2.2.2.2.2.2.2.2.2.2.2.2.2.2.2.2.2.2.2.2.2.2.2.2.2.2.2.2.2.2.2.2.1, y16.2.2.2.2.2.2.2.2.2.2.2.2.2.2.2.2.2.2.2.2.2.2.2.2.2.2.2.2.2.2.2.2.2.2.2.2.2.2.1, y16.2.2.2.2.2.2.2.2.2.2.2.2.2.2.2.2.2.2.2.2.2.2.2.2.2.2.2.2.2.2.2.2.2.2.2.2.2.2.2.1, y16.2.2.2.2.2.2.2.2.2.2.2.2.2.2.2.2.2.2.2.2.2.2.2.2.2.2.2.2.2.2.2.2.2.2.2.2.2.2.2.2.1, ()))) else none) else none) else none
  else
    ke (x.2.2.1, x.2.2.2.1, x.2.2.2.2.1, x.2.2.2.2.2.1, x.2.2.2.2.2.2.1, x.2.2.2.2.2.2.2.1, x.2.2.2.2.2.2.2.2.1, x.2.2.2.2.2.2.2.2.2.1, x.2.2.2.2.2.2.2.2.2.2.1, x.2.2.2.2.2.2.2.2.2.2.2.1, x.2.2.2.2.2.2.2.2.2.2.2.2.1, x.2.2.2.2.2.2.2.2.2.2.2.2.2.1, x.2.2.2.2.2.2.2.2.2.2.2.2.2.2.1, x.2.2.2.2.2.2.2.2.2.2.2.2.2.2.2.1, x.2.2.2.2.2.2.2.2.2.2.2.2.2.2.2.2.1, x.2.2.2.2.2.2.2.2.2.2.2.2.2.2.2.2.2.1, x.2.2.2.2.2.2.2.2.2.2.2.2.2.2.2.2.2.2.1, x.2.2.2.2.2.2.2.2.2.2.2.2.2.2.2.2.2.2.2.1, x.2.2.2.2.2.2.2.2.2.2.2.2.2.2.2.2.2.2.2.2.1, x.2.2.2.2.2.2.2.2.2.2.2.2.2.2.2.2.2.2.2.2.2.1, x.2.2.2.2.2.2.2.2.2.2.2.2.2.2.2.2.2.2.2.2.2.2.1, x.2.2.2.2.2.2.2.2.2.2.2.2.2.2.2.2.2.2.2.2.2.2.2.1, x.2.2.2.2.2.2.2.2.2.2.2.2.2.2.2.2.2.2.2.2.2.2.2.2.1, x.2.2.2.2.2.2.2.2.2.2.2.2.2.2.2.2.2.2.2.2.2.2.2.2.2.1, x.2.2.2.2.2.2.2.2.2.2.2.2.2.2.2.2.2.2.2.2.2.2.2.2.2.2.2.2.2.1, x.2.2.2.2.2.2.2.2.2.2.2.2.2.2.2.2.2.2.2.2.2.2.2.2.2.2.2.2.2.2.1, x.2.2.2.2.2.2.2.2.2.2.2.2.2.2.2.2.2.2.2.2.2.2.2.2.2.2.2.2.2.2.2.1, x.2.2.2.2.2.2.2.2.2.2.2.2.2.2.2.2.2.2.2.2.2.2.2.2.2.2.2.2.2.2.2.2.1, x.2.2.2.2.2.2.2.2.2.2.2.2.2.2.2.2.2.2.2.2.2.2.2.2.2.2.2.2.2.2.2.2.2.1, x.2.2.2.2.2.2.2.2.2.2.2.2.2.2.2.2.2.2.2.2.2.2.2.2.2.2.2.2.2.2.2.2.2.2.1, ())
noncomputable def p_law21_MsgChecks_l8_go : Go' ((Int × Int × Int × Int × Int × Int × Int × Int × Int × List Int × List Int × List Int × Int × Int × Int × Int × Int × Int × Int × Int × Int × Nat × Nat × Nat × Nat × List Int × Nat × List Int × Nat × List Int × Unit)) := fun y K => K (.exit 0) { tmps := [.one .any, .one .any, .one (.sc (.ptr 0 0 none)), .one .any, .one .any, .one .any, .one (.sc (.ptr 1 0 none)), .one .any, .one .any, .one .any, .one .any, .one .any, .one .any, .one .any, .one .any, .one .any, .one .any, .one .any, .one .any, .one .any, .one .any, .one .any, .one .any, .one .any, .one .any, .one .any, .one .any, .one .any, .one .any, .one .any, .one .any, .one .any, .one .any, .one .any, .one .any, .one .any, .one .any, .one .any, .one .any, .one .any, .one .any, .one .any, .one .any, .one .any, .one .any, .one .any, .one .any, .one .any, .one .any, .one .any, .one .any, .one .any, .one .any, .one .any, .one .any, .one .any, .one .any, .one .any, .one .any, .one .any, .one .any, .one .any, .one .any, .one .any, .one .any, .one .any, .one .any, .one .any, .one .any, .one .any, .one .any, .one .any, .one .any, .one .any, .one .any, .one .any, .one .any, .one .any], mem := [.live { segs := [.one (.int .i64 y.1), .one (.int .i64 y.2.1), .one (.int .i64 y.2.2.1), .one (.int .u32 y.2.2.2.1), .one (.int .u32 y.2.2.2.2.1), .one (.int .u64 y.2.2.2.2.2.1), .one (.int .u64 y.2.2.2.2.2.2.1), .one (.int .i64 y.2.2.2.2.2.2.2.1), .one (.int .i64 y.2.2.2.2.2.2.2.2.1), .one (.fr (.xs (.int .u8) y.2.2.2.2.2.2.2.2.2.1)), .one (.fr (.xs (.int .u8) y.2.2.2.2.2.2.2.2.2.2.1)), .one (.fr (.xs (.int .u8) y.2.2.2.2.2.2.2.2.2.2.2.1))], own := .own }, .live { segs := [.one (.int .i64 y.2.2.2.2.2.2.2.2.2.2.2.2.1), .one (.int .i64 y.2.2.2.2.2.2.2.2.2.2.2.2.2.1), .one (.int .i64 y.2.2.2.2.2.2.2.2.2.2.2.2.2.2.1), .one (.int .u32 y.2.2.2.2.2.2.2.2.2.2.2.2.2.2.2.1), .one (.int .u32 y.2.2.2.2.2.2.2.2.2.2.2.2.2.2.2.2.1), .one (.int .u64 y.2.2.2.2.2.2.2.2.2.2.2.2.2.2.2.2.2.1), .one (.int .u64 y.2.2.2.2.2.2.2.2.2.2.2.2.2.2.2.2.2.2.1), .one (.int .i64 y.2.2.2.2.2.2.2.2.2.2.2.2.2.2.2.2.2.2.2.1), .one (.int .i64 y.2.2.2.2.2.2.2.2.2.2.2.2.2.2.2.2.2.2.2.2.1), .one (.vec 2 y.2.2.2.2.2.2.2.2.2.2.2.2.2.2.2.2.2.2.2.2.2.1 1), .one (.vec 3 y.2.2.2.2.2.2.2.2.2.2.2.2.2.2.2.2.2.2.2.2.2.2.1 1), .one (.vec 4 y.2.2.2.2.2.2.2.2.2.2.2.2.2.2.2.2.2.2.2.2.2.2.2.1 1)], own := .own }, .live { segs := [.xs (.int .u8) y.2.2.2.2.2.2.2.2.2.2.2.2.2.2.2.2.2.2.2.2.2.2.2.2.1 y.2.2.2.2.2.2.2.2.2.2.2.2.2.2.2.2.2.2.2.2.2.2.2.2.2.1], own := .own }, .live { segs := [.xs (.int .u8) y.2.2.2.2.2.2.2.2.2.2.2.2.2.2.2.2.2.2.2.2.2.2.2.2.2.2.1 y.2.2.2.2.2.2.2.2.2.2.2.2.2.2.2.2.2.2.2.2.2.2.2.2.2.2.2.1], own := .own }, .live { segs := [.xs (.int .u8) y.2.2.2.2.2.2.2.2.2.2.2.2.2.2.2.2.2.2.2.2.2.2.2.2.2.2.2.2.1 y.2.2.2.2.2.2.2.2.2.2.2.2.2.2.2.2.2.2.2.2.2.2.2.2.2.2.2.2.2.1], own := .own }] }
noncomputable def p_law21_MsgChecks_l8_L (N : Nat) : LT := upd (p_law21_MsgChecks_l11v2_L N) 8 (loopE p_law21_MsgChecks_l8_S N (p_law21_MsgChecks_l8_F N) p_law21_MsgChecks_l8_go)
theorem p_law21_MsgChecks_l8_ok (N : Nat) : OkAll p_law21_MsgChecks_E p_law21_MsgChecks_H N (p_law21_MsgChecks_l8_L N) (subs p_law21_MsgChecks_c) :=
  addLoop (c := theLoop 8 p_law21_MsgChecks_c) (p_law21_MsgChecks_l11v2_ok N) (by kernel_rfl) (fun x => by kernel_rfl) (fun β x kn ke => by kernel_rfl)
abbrev p_law21_MsgChecks_ks : List Kd := [.cat [.int .i64, .int .i64, .int .i64, .int .u32, .int .u32, .int .u64, .int .u64, .int .i64, .int .i64, .sl (.int .u8), .sl (.int .u8), .sl (.int .u8)], .cat [.int .i64, .int .i64, .int .i64, .int .u32, .int .u32, .int .u64, .int .u64, .int .i64, .int .i64, .sl (.int .u8), .sl (.int .u8), .sl (.int .u8)]]
abbrev p_law21_MsgChecks_rs : List Kd := [.bool]
noncomputable def p_law21_MsgChecks (N : Nat) (x : (Int × Int × Int × Int × Int × Int × Int × Int × Int × List Int × List Int × List Int × Unit) × (Int × Int × Int × Int × Int × Int × Int × Int × Int × List Int × List Int × List Int × Unit) × Unit) : Option (Bool) :=
  (g_law21_live (())).bind fun r1 => (
  if (¬ (r1 = true)) then
    (g_law21_live (())).bind fun r2 => (
    some (decide (r2 = true)))
  else
    (g_law21_big ((x.1.1, x.1.2.1, x.1.2.2.1, x.1.2.2.2.1, x.1.2.2.2.2.1, x.1.2.2.2.2.2.1, x.1.2.2.2.2.2.2.1, x.1.2.2.2.2.2.2.2.1, x.1.2.2.2.2.2.2.2.2.1, x.1.2.2.2.2.2.2.2.2.2.1, x.1.2.2.2.2.2.2.2.2.2.2.1, x.1.2.2.2.2.2.2.2.2.2.2.2.1, ()), ())).bind fun r3 => (
    if (r3 = true) then
      (g_law21_live (())).bind fun r4 => (
      some (decide (r4 = true)))
    else
      (g_law21_big ((x.2.1.1, x.2.1.2.1, x.2.1.2.2.1, x.2.1.2.2.2.1, x.2.1.2.2.2.2.1, x.2.1.2.2.2.2.2.1, x.2.1.2.2.2.2.2.2.1, x.2.1.2.2.2.2.2.2.2.1, x.2.1.2.2.2.2.2.2.2.2.1, x.2.1.2.2.2.2.2.2.2.2.2.1, x.2.1.2.2.2.2.2.2.2.2.2.2.1, x.2.1.2.2.2.2.2.2.2.2.2.2.2.1, ()), ())).bind fun r5 => (
      if (r5 = true) then
        (g_law21_live (())).bind fun r6 => (
        some (decide (r6 = true)))
      else
        (g_msg_Clone ((x.1.1, x.1.2.1, x.1.2.2.1, x.1.2.2.2.1, x.1.2.2.2.2.1, x.1.2.2.2.2.2.1, x.1.2.2.2.2.2.2.1, x.1.2.2.2.2.2.2.2.1, x.1.2.2.2.2.2.2.2.2.1, x.1.2.2.2.2.2.2.2.2.2.1, x.1.2.2.2.2.2.2.2.2.2.2.1, x.1.2.2.2.2.2.2.2.2.2.2.2.1, ()), ())).bind fun r7 => (
        (g_msg_Check ((x.1.1, x.1.2.1, x.1.2.2.1, x.1.2.2.2.1, x.1.2.2.2.2.1, x.1.2.2.2.2.2.1, x.1.2.2.2.2.2.2.1, x.1.2.2.2.2.2.2.2.1, x.1.2.2.2.2.2.2.2.2.1, x.1.2.2.2.2.2.2.2.2.2.1, x.1.2.2.2.2.2.2.2.2.2.2.1, x.1.2.2.2.2.2.2.2.2.2.2.2.1, ()), ())).bind fun r8 => (
        (g_ref21_Check ((x.1.1, x.1.2.1, x.1.2.2.1, x.1.2.2.2.1, x.1.2.2.2.2.1, x.1.2.2.2.2.2.1, x.1.2.2.2.2.2.2.1, x.1.2.2.2.2.2.2.2.1, x.1.2.2.2.2.2.2.2.2.1, x.1.2.2.2.2.2.2.2.2.2.1, x.1.2.2.2.2.2.2.2.2.2.2.1, x.1.2.2.2.2.2.2.2.2.2.2.2.1, ()), ())).bind fun r9 => (
        if (r8 ≠ r9) then
          some false
        else
          (g_msg_Same ((x.1.1, x.1.2.1, x.1.2.2.1, x.1.2.2.2.1, x.1.2.2.2.2.1, x.1.2.2.2.2.2.1, x.1.2.2.2.2.2.2.1, x.1.2.2.2.2.2.2.2.1, x.1.2.2.2.2.2.2.2.2.1, x.1.2.2.2.2.2.2.2.2.2.1, x.1.2.2.2.2.2.2.2.2.2.2.1, x.1.2.2.2.2.2.2.2.2.2.2.2.1, ()), (x.2.1.1, x.2.1.2.1, x.2.1.2.2.1, x.2.1.2.2.2.1, x.2.1.2.2.2.2.1, x.2.1.2.2.2.2.2.1, x.2.1.2.2.2.2.2.2.1, x.2.1.2.2.2.2.2.2.2.1, x.2.1.2.2.2.2.2.2.2.2.1, x.2.1.2.2.2.2.2.2.2.2.2.1, x.2.1.2.2.2.2.2.2.2.2.2.2.1, x.2.1.2.2.2.2.2.2.2.2.2.2.2.1, ()), ())).bind fun r10 => (
          (g_ref21_Same ((x.1.1, x.1.2.1, x.1.2.2.1, x.1.2.2.2.1, x.1.2.2.2.2.1, x.1.2.2.2.2.2.1, x.1.2.2.2.2.2.2.1, x.1.2.2.2.2.2.2.2.1, x.1.2.2.2.2.2.2.2.2.1, x.1.2.2.2.2.2.2.2.2.2.1, x.1.2.2.2.2.2.2.2.2.2.2.1, x.1.2.2.2.2.2.2.2.2.2.2.2.1, ()), (x.2.1.1, x.2.1.2.1, x.2.1.2.2.1, x.2.1.2.2.2.1, x.2.1.2.2.2.2.1, x.2.1.2.2.2.2.2.1, x.2.1.2.2.2.2.2.2.1, x.2.1.2.2.2.2.2.2.2.1, x.2.1.2.2.2.2.2.2.2.2.1, x.2.1.2.2.2.2.2.2.2.2.2.1, x.2.1.2.2.2.2.2.2.2.2.2.2.1, x.2.1.2.2.2.2.2.2.2.2.2.2.2.1, ()), ())).bind fun r11 => (
          if ((decide (r10 = true)) ≠ (decide (r11 = true))) then
            some false
          else
            (g_ref21_Same ((r7.1, r7.2.1, r7.2.2.1, r7.2.2.2.1, r7.2.2.2.2.1, r7.2.2.2.2.2.1, r7.2.2.2.2.2.2.1, r7.2.2.2.2.2.2.2.1, r7.2.2.2.2.2.2.2.2.1, r7.2.2.2.2.2.2.2.2.2.1, r7.2.2.2.2.2.2.2.2.2.2.1, r7.2.2.2.2.2.2.2.2.2.2.2.1, ()), (x.1.1, x.1.2.1, x.1.2.2.1, x.1.2.2.2.1, x.1.2.2.2.2.1, x.1.2.2.2.2.2.1, x.1.2.2.2.2.2.2.1, x.1.2.2.2.2.2.2.2.1, x.1.2.2.2.2.2.2.2.2.1, x.1.2.2.2.2.2.2.2.2.2.1, x.1.2.2.2.2.2.2.2.2.2.2.1, x.1.2.2.2.2.2.2.2.2.2.2.2.1, ()), ())).bind fun r12 => (
            if (¬ (r12 = true)) then
              some false
            else
              (g_msg_Clone ((r7.1, r7.2.1, r7.2.2.1, r7.2.2.2.1, r7.2.2.2.2.1, r7.2.2.2.2.2.1, r7.2.2.2.2.2.2.1, r7.2.2.2.2.2.2.2.1, r7.2.2.2.2.2.2.2.2.1, r7.2.2.2.2.2.2.2.2.2.1, r7.2.2.2.2.2.2.2.2.2.2.1, r7.2.2.2.2.2.2.2.2.2.2.2.1, ()), ())).bind fun r13 => (
              iter (p_law21_MsgChecks_l8_F N) N ((3:Int), (0:Int), x.1.1, x.1.2.1, x.1.2.2.1, x.1.2.2.2.1, x.1.2.2.2.2.1, x.1.2.2.2.2.2.1, x.1.2.2.2.2.2.2.1, x.1.2.2.2.2.2.2.2.1, x.1.2.2.2.2.2.2.2.2.1, x.1.2.2.2.2.2.2.2.2.2.1, x.1.2.2.2.2.2.2.2.2.2.2.1, x.1.2.2.2.2.2.2.2.2.2.2.2.1, r13.1, r13.2.1, r13.2.2.1, r13.2.2.2.1, r13.2.2.2.2.1, r13.2.2.2.2.2.1, r13.2.2.2.2.2.2.1, r13.2.2.2.2.2.2.2.1, r13.2.2.2.2.2.2.2.2.1, (List.length r13.2.2.2.2.2.2.2.2.2.1), (List.length r13.2.2.2.2.2.2.2.2.2.2.1), (List.length r13.2.2.2.2.2.2.2.2.2.2.2.1), (List.length r7.2.2.2.2.2.2.2.2.2.1), (List.length r7.2.2.2.2.2.2.2.2.2.2.1), (List.length r7.2.2.2.2.2.2.2.2.2.2.2.1), (List.length r13.2.2.2.2.2.2.2.2.2.1), r13.2.2.2.2.2.2.2.2.2.1, (List.length r13.2.2.2.2.2.2.2.2.2.2.1), r13.2.2.2.2.2.2.2.2.2.2.1, (List.length r13.2.2.2.2.2.2.2.2.2.2.2.1), r13.2.2.2.2.2.2.2.2.2.2.2.1, (List.length r7.2.2.2.2.2.2.2.2.2.1), r7.2.2.2.2.2.2.2.2.2.1, (List.length r7.2.2.2.2.2.2.2.2.2.2.1), r7.2.2.2.2.2.2.2.2.2.2.1, (List.length r7.2.2.2.2.2.2.2.2.2.2.2.1), r7.2.2.2.2.2.2.2.2.2.2.2.1, ()) fun y17 => (
              (g_ref21_Same ((y17.2.2.2.2.2.2.2.2.2.2.2.2.1, y17.2.2.2.2.2.2.2.2.2.2.2.2.2.1, y17.2.2.2.2.2.2.2.2.2.2.2.2.2.2.1, y17.2.2.2.2.2.2.2.2.2.2.2.2.2.2.2.1, y17.2.2.2.2.2.2.2.2.2.2.2.2.2.2.2.2.1, y17.2.2.2.2.2.2.2.2.2.2.2.2.2.2.2.2.2.1, y17.2.2.2.2.2.2.2.2.2.2.2.2.2.2.2.2.2.2.1, y17.2.2.2.2.2.2.2.2.2.2.2.2.2.2.2.2.2.2.2.1, y17.2.2.2.2.2.2.2.2.2.2.2.2.2.2.2.2.2.2.2.2.1, y17.2.2.2.2.2.2.2.2.2.2.2.2.2.2.2.2.2.2.2.2.2.2.2.2.2.1, y17.2.2.2.2.2.2.2.2.2.2.2.2.2.2.2.2.2.2.2.2.2.2.2.2.2.2.2.1, y17.2.2.2.2.2.2.2.2.2.2.2.2.2.2.2.2.2.2.2.2.2.2.2.2.2.2.2.2.2.1, ()), (y17.1, y17.2.1, y17.2.2.1, y17.2.2.2.1, y17.2.2.2.2.1, y17.2.2.2.2.2.1, y17.2.2.2.2.2.2.1, y17.2.2.2.2.2.2.2.1, y17.2.2.2.2.2.2.2.2.1, y17.2.2.2.2.2.2.2.2.2.1, y17.2.2.2.2.2.2.2.2.2.2.1, y17.2.2.2.2.2.2.2.2.2.2.2.1, ()), ())).bind fun r18 => (
              if (r18 = true) then
                (g_msg_Same ((y17.1, y17.2.1, y17.2.2.1, y17.2.2.2.1, y17.2.2.2.2.1, y17.2.2.2.2.2.1, y17.2.2.2.2.2.2.1, y17.2.2.2.2.2.2.2.1, y17.2.2.2.2.2.2.2.2.1, y17.2.2.2.2.2.2.2.2.2.1, y17.2.2.2.2.2.2.2.2.2.2.1, y17.2.2.2.2.2.2.2.2.2.2.2.1, ()), (y17.1, y17.2.1, y17.2.2.1, y17.2.2.2.1, y17.2.2.2.2.1, y17.2.2.2.2.2.1, y17.2.2.2.2.2.2.1, y17.2.2.2.2.2.2.2.1, y17.2.2.2.2.2.2.2.2.1, y17.2.2.2.2.2.2.2.2.2.1, y17.2.2.2.2.2.2.2.2.2.2.1, y17.2.2.2.2.2.2.2.2.2.2.2.1, ()), ())).bind fun r19 => (
                some (decide (r19 = true)))
              else
                some false))))))))))))
theorem p_law21_MsgChecks_eq (N : Nat) (x : Ds [.cat [.int .i64, .int .i64, .int .i64, .int .u32, .int .u32, .int .u64, .int .u64, .int .i64, .int .i64, .sl (.int .u8), .sl (.int .u8), .sl (.int .u8)], .cat [.int .i64, .int .i64, .int .i64, .int .u32, .int .u32, .int .u64, .int .u64, .int .i64, .int .i64, .sl (.int .u8), .sl (.int .u8), .sl (.int .u8)]]) : funL p_law21_MsgChecks_E p_law21_MsgChecks_H (p_law21_MsgChecks_l8_L N) N Go.Proofs.Try.f5 p_law21_MsgChecks_c [.cat [.int .i64, .int .i64, .int .i64, .int .u32, .int .u32, .int .u64, .int .u64, .int .i64, .int .i64, .sl (.int .u8), .sl (.int .u8), .sl (.int .u8)], .cat [.int .i64, .int .i64, .int .i64, .int .u32, .int .u32, .int .u64, .int .u64, .int .i64, .int .i64, .sl (.int .u8), .sl (.int .u8), .sl (.int .u8)]] [.bool] x = p_law21_MsgChecks N x := by kernel_rfl
theorem p_law21_MsgChecks_Eok (he_law21_live : SigOk Go.Proofs.Try.prog 11 ⟨[], [.bool], g_law21_live⟩) (he_law21_big : SigOk Go.Proofs.Try.prog 16 ⟨[.cat [.int .i64, .int .i64, .int .i64, .int .u32, .int .u32, .int .u64, .int .u64, .int .i64, .int .i64, .sl (.int .u8), .sl (.int .u8), .sl (.int .u8)]], [.bool], g_law21_big⟩) (he_msg_Clone : SigOk Go.Proofs.Try.prog 24 ⟨[.cat [.int .i64, .int .i64, .int .i64, .int .u32, .int .u32, .int .u64, .int .u64, .int .i64, .int .i64, .sl (.int .u8), .sl (.int .u8), .sl (.int .u8)]], [.cat [.int .i64, .int .i64, .int .i64, .int .u32, .int .u32, .int .u64, .int .u64, .int .i64, .int .i64, .sl (.int .u8), .sl (.int .u8), .sl (.int .u8)]], g_msg_Clone⟩) (he_msg_Check : SigOk Go.Proofs.Try.prog 25 ⟨[.cat [.int .i64, .int .i64, .int .i64, .int .u32, .int .u32, .int .u64, .int .u64, .int .i64, .int .i64, .sl (.int .u8), .sl (.int .u8), .sl (.int .u8)]], [.int .i64], g_msg_Check⟩) (he_ref21_Check : SigOk Go.Proofs.Try.prog 26 ⟨[.cat [.int .i64, .int .i64, .int .i64, .int .u32, .int .u32, .int .u64, .int .u64, .int .i64, .int .i64, .sl (.int .u8), .sl (.int .u8), .sl (.int .u8)]], [.int .i64], g_ref21_Check⟩) (he_msg_Same : SigOk Go.Proofs.Try.prog 27 ⟨[.cat [.int .i64, .int .i64, .int .i64, .int .u32, .int .u32, .int .u64, .int .u64, .int .i64, .int .i64, .sl (.int .u8), .sl (.int .u8), .sl (.int .u8)], .cat [.int .i64, .int .i64, .int .i64, .int .u32, .int .u32, .int .u64, .int .u64, .int .i64, .int .i64, .sl (.int .u8), .sl (.int .u8), .sl (.int .u8)]], [.bool], g_msg_Same⟩) (he_ref21_Same : SigOk Go.Proofs.Try.prog 28 ⟨[.cat [.int .i64, .int .i64, .int .i64, .int .u32, .int .u32, .int .u64, .int .u64, .int .i64, .int .i64, .sl (.int .u8), .sl (.int .u8), .sl (.int .u8)], .cat [.int .i64, .int .i64, .int .i64, .int .u32, .int .u32, .int .u64, .int .u64, .int .i64, .int .i64, .sl (.int .u8), .sl (.int .u8), .sl (.int .u8)]], [.bool], g_ref21_Same⟩) : p_law21_MsgChecks_E.Ok Go.Proofs.Try.prog := AE.ofQ_ok (all_cons ty4_ok (all_cons ty5_ok (all_cons ty29_ok (all_cons ty31_ok (all_cons ty42_ok all_nil))))) (all_cons ⟨he_law21_live, enters_law21_live⟩ (all_cons ⟨he_law21_big, enters_law21_big⟩ (all_cons ⟨he_msg_Clone, enters_msg_Clone⟩ (all_cons ⟨he_msg_Check, enters_msg_Check⟩ (all_cons ⟨he_ref21_Check, enters_ref21_Check⟩ (all_cons ⟨he_msg_Same, enters_msg_Same⟩ (all_cons ⟨he_ref21_Same, enters_ref21_Same⟩ all_nil))))))) (all_cons steq28_ok all_nil)
theorem p_law21_MsgChecks_ok (he_law21_live : SigOk Go.Proofs.Try.prog 11 ⟨[], [.bool], g_law21_live⟩) (he_law21_big : SigOk Go.Proofs.Try.prog 16 ⟨[.cat [.int .i64, .int .i64, .int .i64, .int .u32, .int .u32, .int .u64, .int .u64, .int .i64, .int .i64, .sl (.int .u8), .sl (.int .u8), .sl (.int .u8)]], [.bool], g_law21_big⟩) (he_msg_Clone : SigOk Go.Proofs.Try.prog 24 ⟨[.cat [.int .i64, .int .i64, .int .i64, .int .u32, .int .u32, .int .u64, .int .u64, .int .i64, .int .i64, .sl (.int .u8), .sl (.int .u8), .sl (.int .u8)]], [.cat [.int .i64, .int .i64, .int .i64, .int .u32, .int .u32, .int .u64, .int .u64, .int .i64, .int .i64, .sl (.int .u8), .sl (.int .u8), .sl (.int .u8)]], g_msg_Clone⟩) (he_msg_Check : SigOk Go.Proofs.Try.prog 25 ⟨[.cat [.int .i64, .int .i64, .int .i64, .int .u32, .int .u32, .int .u64, .int .u64, .int .i64, .int .i64, .sl (.int .u8), .sl (.int .u8), .sl (.int .u8)]], [.int .i64], g_msg_Check⟩) (he_ref21_Check : SigOk Go.Proofs.Try.prog 26 ⟨[.cat [.int .i64, .int .i64, .int .i64, .int .u32, .int .u32, .int .u64, .int .u64, .int .i64, .int .i64, .sl (.int .u8), .sl (.int .u8), .sl (.int .u8)]], [.int .i64], g_ref21_Check⟩) (he_msg_Same : SigOk Go.Proofs.Try.prog 27 ⟨[.cat [.int .i64, .int .i64, .int .i64, .int .u32, .int .u32, .int .u64, .int .u64, .int .i64, .int .i64, .sl (.int .u8), .sl (.int .u8), .sl (.int .u8)], .cat [.int .i64, .int .i64, .int .i64, .int .u32, .int .u32, .int .u64, .int .u64, .int .i64, .int .i64, .sl (.int .u8), .sl (.int .u8), .sl (.int .u8)]], [.bool], g_msg_Same⟩) (he_ref21_Same : SigOk Go.Proofs.Try.prog 28 ⟨[.cat [.int .i64, .int .i64, .int .i64, .int .u32, .int .u32, .int .u64, .int .u64, .int .i64, .int .i64, .sl (.int .u8), .sl (.int .u8), .sl (.int .u8)], .cat [.int .i64, .int .i64, .int .i64, .int .u32, .int .u32, .int .u64, .int .u64, .int .i64, .int .i64, .sl (.int .u8), .sl (.int .u8), .sl (.int .u8)]], [.bool], g_ref21_Same⟩) {g : Ds [.cat [.int .i64, .int .i64, .int .i64, .int .u32, .int .u32, .int .u64, .int .u64, .int .i64, .int .i64, .sl (.int .u8), .sl (.int .u8), .sl (.int .u8)], .cat [.int .i64, .int .i64, .int .i64, .int .u32, .int .u32, .int .u64, .int .u64, .int .i64, .int .i64, .sl (.int .u8), .sl (.int .u8), .sl (.int .u8)]] → Option (Rs [.bool])} (hg : ∀ x r, g x = some r → ∃ N, p_law21_MsgChecks N x = some r) : SigOk Go.Proofs.Try.prog 5 ⟨[.cat [.int .i64, .int .i64, .int .i64, .int .u32, .int .u32, .int .u64, .int .u64, .int .i64, .int .i64, .sl (.int .u8), .sl (.int .u8), .sl (.int .u8)], .cat [.int .i64, .int .i64, .int .i64, .int .u32, .int .u32, .int .u64, .int .u64, .int .i64, .int .i64, .sl (.int .u8), .sl (.int .u8), .sl (.int .u8)]], [.bool], g⟩ :=
  fun_of (E := p_law21_MsgChecks_E) (H := p_law21_MsgChecks_H) (L := fun N => p_law21_MsgChecks_l8_L N) (c := p_law21_MsgChecks_c) (ks := p_law21_MsgChecks_ks) (rs := p_law21_MsgChecks_rs) (F := p_law21_MsgChecks) (p_law21_MsgChecks_Eok he_law21_live he_law21_big he_msg_Clone he_msg_Check he_ref21_Check he_msg_Same he_ref21_Same) mix Go.Proofs.Try.func5 (by kernel_rfl) (fun N => p_law21_MsgChecks_l8_ok N) p_law21_MsgChecks_eq hg
end Go.Ax.TryP
/-! ### The reference's answers -/
set_option linter.unusedVariables false
set_option linter.unusedSimpArgs false
namespace Go.Ax.TryP
theorem q_ref19_One : ∀ x r, g_ref19_One x = some r → ∃ N, p_ref19_One N x = some r := by
  refine Spec_of (ks := p_ref19_One_ks) (rs := p_ref19_One_rs) fun x hw hq => ⟨0, ?_⟩
  obtain ⟨⟨(lo : Int), (hi : Int), v⟩, u⟩ := x
  show p_ref19_One 0 ((lo, hi, v), u) = some (oneS lo hi)
  unfold p_ref19_One oneS
  dsimp only
  by_cases h1 : lo < hi
  · rw [if_pos h1]
    exact congrArg some (decide_eq_decide.2 (by omega))
  · rw [if_neg h1]
    exact congrArg some (decide_eq_false (by omega)).symm
theorem at_One {lo hi : Int} (h1 : 0 ≤ lo ∧ lo ≤ 18446744073709551615) (h2 : 0 ≤ hi ∧ hi ≤ 18446744073709551615) : g_ref19_One ((lo, hi, ()), ()) = some (oneS lo hi) :=
  Spec_at (ks := p_ref19_One_ks) (rs := p_ref19_One_rs) (x := ((lo, hi, ()), ())) ⟨⟨okInt_u64'.2 h1, okInt_u64'.2 h2, trivial⟩, trivial⟩ trivial
/-- .. written from the end. -/
def bigR (n : Int) (w i : Nat) : List Int := List.replicate (w - i) 0 ++ bigS n i
theorem bigR_step (n : Int) {w i : Nat} (hi : i < w) : (bigR n w i).set (w - 1 - i) (n / 256 ^ i % 256) = bigR n w (i + 1) := by
  have e : bigS n (i + 1) = (n / 256 ^ i % 256) :: bigS n i := by
    unfold bigS
    rw [List.range_succ_eq_map, List.map_cons, List.map_map]
    congr 1
    · rw [show 8 * (i + 1 - 1 - 0) = 8 * i by omega, Int.pow_mul]; rfl
    · refine List.map_congr_left fun j _ => ?_
      simp only [Function.comp]
      rw [show i + 1 - 1 - (j + 1) = i - 1 - j by omega]
  unfold bigR
  rw [e, show w - i = (w - 1 - i) + 1 by omega, List.replicate_succ', List.append_assoc, List.set_append_right _ _ (by simp), show w - (i + 1) = w - 1 - i by omega]
  simp
theorem q_ref01_Big : ∀ x r, g_ref01_Big x = some r → ∃ N, p_ref01_Big N x = some r := by
  refine Spec_of (ks := p_ref01_Big_ks) (rs := p_ref01_Big_rs) fun x hw hq => ⟨10, ?_⟩
  obtain ⟨(n : Int), (w : Int), u⟩ := x
  have hn : 0 ≤ n ∧ n ≤ 18446744073709551615 := okInt_u64'.1 hw.1
  obtain ⟨h0, h1⟩ : 0 ≤ w ∧ w ≤ 8 := hq
  obtain ⟨w, rfl⟩ : ∃ m : Nat, w = m := ⟨w.toNat, by omega⟩
  show p_ref01_Big 10 (n, (w : Int), u) = some (bigS n ((w : Int).toNat))
  unfold p_ref01_Big
  dsimp only
  rw [if_pos h0, if_pos rfl, if_pos (by omega), Int.toNat_natCast, wrap_i64 (by omega) (by omega)]
  refine (iter_from (F := p_ref01_Big_l3_F 10) (s := fun i => (n / 256 ^ i, w, (w : Int) - 1 - i, w, bigR n w i, ())) (y := (w, w, bigS n w, ())) w ?_ ?_ ?_ 10 (by omega)).trans ?_
  · simp [bigR, bigS]
  · intro i hi kn
    have hp : (0 : Int) < 256 ^ i := Int.pow_pos (by decide)
    have hq0 : 0 ≤ n / 256 ^ i := Int.ediv_nonneg hn.1 (by omega)
    have hq1 : n / 256 ^ i ≤ n := Int.ediv_le_self _ hn.1
    have e1 : n / 256 ^ i / 256 = n / 256 ^ (i + 1) := by rw [Int.ediv_ediv_of_nonneg (by omega), Int.pow_succ]
    have et : ((w : Int) - 1 - (i : Int)).toNat = w - 1 - i := by omega
    unfold p_ref01_Big_l3_F
    dsimp only
    rw [if_pos (by omega), if_pos (by omega), if_pos (by omega), et, if_pos (by omega), tdiv_pos hq0, tmod_pos hq0, wrap_u8_mod, wrap_u64' (by omega) (by omega), wrap_i64 (by omega) (by omega), Int.emod_emod_of_dvd _ (Int.dvd_refl 256), bigR_step n hi, e1]
    congr 1
    simp only [Prod.mk.injEq, and_true, true_and]
    omega
  · intro kn
    unfold p_ref01_Big_l3_F
    dsimp only
    rw [if_neg (by omega)]
    simp [bigR]
  · rfl
theorem at_rBig {n : Int} (hn : 0 ≤ n ∧ n ≤ 18446744073709551615) {w : Nat} (hw : w ≤ 8) : g_ref01_Big (n, (w : Int), ()) = some (bigS n w) := by
  have := Spec_at (ks := p_ref01_Big_ks) (rs := p_ref01_Big_rs) (x := (n, (w : Int), ())) (Q := fun x => 0 ≤ x.2.1 ∧ x.2.1 ≤ 8) (f := fun x => bigS x.1 x.2.1.toNat) ⟨okInt_u64'.2 hn, (okInt_i64 (n := (w : Int))).2 (by omega), trivial⟩ ⟨by show (0 : Int) ≤ w; omega, by show (w : Int) ≤ 8; omega⟩
  exact this
theorem rjoin3 {a b d : List Int} (ha : a.length ≤ 300000) (hb : b.length ≤ 300000) (hd : d.length ≤ 300000) (ka : bytes a) (kb : bytes b) (kd : bytes d) : g_ref01_Join ([a, b, d], ()) = some (a ++ (b ++ d)) := by
  have hM : 1000000 ≤ maxLen := by decide
  rw [at_Join' ⟨by simp, by simp only [List.flatten_cons, List.flatten_nil, List.length_append, List.length_nil]; omega⟩ ⟨by simp only [List.length_cons, List.length_nil]; omega, fun zs hz => ?_⟩]
  · simp
  · simp only [List.mem_cons, List.not_mem_nil, or_false] at hz
    rcases hz with rfl | rfl | rfl
    · exact ⟨by omega, ka⟩
    · exact ⟨by omega, kb⟩
    · exact ⟨by omega, kd⟩
theorem rjoin2 {a b : List Int} (ha : a.length ≤ 300000) (hb : b.length ≤ 300000) (ka : bytes a) (kb : bytes b) : g_ref01_Join ([a, b], ()) = some (a ++ b) := by
  have hM : 1000000 ≤ maxLen := by decide
  rw [at_Join' ⟨by simp, by simp only [List.flatten_cons, List.flatten_nil, List.length_append, List.length_nil]; omega⟩ ⟨by simp only [List.length_cons, List.length_nil]; omega, fun zs hz => ?_⟩]
  · simp
  · simp only [List.mem_cons, List.not_mem_nil, or_false] at hz
    rcases hz with rfl | rfl
    · exact ⟨by omega, ka⟩
    · exact ⟨by omega, kb⟩
theorem q_ref21_text : ∀ x r, g_ref21_text x = some r → ∃ N, p_ref21_text N x = some r := by
  refine Spec_of (ks := p_ref21_text_ks) (rs := p_ref21_text_rs) fun x hw hq => ⟨0, ?_⟩
  obtain ⟨(b : List Int), u⟩ := x
  obtain ⟨hb1, hb2⟩ : b.length ≤ maxLen ∧ bytes b := wf_b1.1 hw.1
  have hq : b.length ≤ 60000 := hq
  unfold p_ref21_text
  dsimp only
  rw [wrap_u64' (by omega) (by omega), show (2 : Int) = ((2 : Nat) : Int) from rfl, at_rBig ⟨by omega, by omega⟩ (by omega), Option.bind_some, rjoin2 (by rw [bigS_len]; omega) (by omega) (bigS_bytes _ _) hb2, Option.bind_some]
theorem at_text {b : List Int} (h : b.length ≤ 60000) (hb : bytes b) : g_ref21_text (b, ()) = some (bigS (b.length : Int) 2 ++ b) := by
  have hM := maxL
  exact Spec_at (ks := p_ref21_text_ks) (rs := p_ref21_text_rs) (x := (b, ())) ⟨(wf_b1 (b := b)).2 ⟨by omega, hb⟩, trivial⟩ h
theorem q_ref21_so : ∀ x r, g_ref21_so x = some r → ∃ N, p_ref21_so N x = some r := by
  refine Spec_of (ks := p_ref21_so_ks) (rs := p_ref21_so_rs) fun x hw hq => ⟨0, ?_⟩
  obtain ⟨(is : Bool), (b : List Int), (m : Int), u⟩ := x
  show p_ref21_so 0 (is, b, m, u) = some (withS is b.length m)
  unfold p_ref21_so withS
  dsimp only
  cases is with
  | false =>
    rw [if_neg (show ¬ (false = true) by simp), if_pos (by simp), if_neg (show ¬ (false = true) by simp)]
    exact congrArg some (decide_eq_decide.2 (by omega))
  | true =>
    rw [if_pos rfl, if_pos rfl]
    by_cases h : (b.length : Int) ≥ 1
    · rw [if_pos h]
      by_cases h2 : (b.length : Int) ≤ m
      · rw [if_pos h2, decide_eq_true (by omega)]
      · rw [if_neg h2, if_neg (by simp), decide_eq_false (by omega)]
    · rw [if_neg h, if_neg (by simp), decide_eq_false (by omega)]
theorem at_so {is : Bool} {b : List Int} {m : Int} (hb : b.length ≤ maxLen ∧ bytes b) (hm : -9223372036854775808 ≤ m ∧ m ≤ 9223372036854775807) : g_ref21_so (is, b, m, ()) = some (withS is b.length m) :=
  Spec_at (ks := p_ref21_so_ks) (rs := p_ref21_so_rs) (x := (is, b, m, ())) ⟨trivial, wf_b1.2 hb, okInt_i64.2 hm, trivial⟩ trivial
end Go.Ax.TryP
/-! ### The reference's check -/
set_option linter.unusedVariables false
set_option linter.unusedSimpArgs false
namespace Go.Ax.TryP
def ok17 (c : Ms) : Bool := if c.1 = 4 then markS c.2.2.2.2.2.2.2.2.1 c.2.2.2.2.2.2.2.2.2.1 else true
def ok15 (c : Ms) (m : Int) : Bool := withS (hasB c.1 100) c.2.2.2.2.2.2.2.2.2.1.length m && (withS (hasB c.1 99) c.2.2.2.2.2.2.2.2.2.2.1.length 6446 && (withS (hasB c.1 115) c.2.2.2.2.2.2.2.2.2.2.2.1.length 3309 && ok17 c))
def partB (c : Ms) : Bool := if hasB c.1 112 = true then decide (0 ≤ c.2.2.2.2.2.2.2.1 ∧ c.2.2.2.2.2.2.2.1 < c.2.2.2.2.2.2.2.2.1) else decide (c.2.2.2.2.2.2.2.1 = 0)
def partsB (c : Ms) : Bool := if hasB c.1 110 = true then decide (1 ≤ c.2.2.2.2.2.2.2.2.1 ∧ c.2.2.2.2.2.2.2.2.1 ≤ 256) else decide (c.2.2.2.2.2.2.2.2.1 = 0)
def ok10 (c : Ms) : Bool := partB c && ok15 c (mostS c.1)
def ok8 (c : Ms) : Bool := partsB c && ok10 c
def ok6 (c : Ms) : Bool := rangedS c && ok8 c
def erS (b : Bool) : Int := if b = true then 0 else 210
theorem s17 {c : Ms} (h : msOk c) (hp : 0 ≤ c.2.2.2.2.2.2.2.2.1 ∧ c.2.2.2.2.2.2.2.2.1 ≤ 256) {β : Type} (ke : (Int × Unit) → Option β) : p_ref21_Check_s17_F 0 β (c.1, c) ke = ke (erS (ok17 c), ()) := by
  unfold p_ref21_Check_s17_F ok17
  dsimp only
  by_cases h4 : c.1 = 4
  · rw [if_pos h4, if_pos h4, at_marked' (by omega) h.2.2.2.2.2.2.2.2.2.1, Option.bind_some]
    cases markS c.2.2.2.2.2.2.2.2.1 c.2.2.2.2.2.2.2.2.2.1 <;> rfl
  · rw [if_neg h4, if_neg h4]
    rfl
theorem s15 {c : Ms} (h : msOk c) (hp : 0 ≤ c.2.2.2.2.2.2.2.2.1 ∧ c.2.2.2.2.2.2.2.2.1 ≤ 256) {m : Int} (hm : -9223372036854775808 ≤ m ∧ m ≤ 9223372036854775807) {β : Type} (ke : (Int × Unit) → Option β) : p_ref21_Check_s15_F 0 β (c.1, m, c) ke = ke (erS (ok15 c m), ()) := by
  have h2 := h
  obtain ⟨h1, _, _, _, _, _, _, _, _, h10, h11, h12⟩ := h2
  unfold p_ref21_Check_s15_F ok15
  dsimp only
  rw [at_has' h1 (by omega), Option.bind_some, dec_b, at_so h10 hm, Option.bind_some]
  cases withS (hasB c.1 100) c.2.2.2.2.2.2.2.2.2.1.length m with
  | false => rfl
  | true =>
  rw [if_neg (by simp), at_has' h1 (by omega), Option.bind_some, dec_b, at_so h11 (by omega), Option.bind_some]
  cases withS (hasB c.1 99) c.2.2.2.2.2.2.2.2.2.2.1.length 6446 with
  | false => rfl
  | true =>
  rw [if_neg (by simp), at_has' h1 (by omega), Option.bind_some, dec_b, at_so h12 (by omega), Option.bind_some]
  cases withS (hasB c.1 115) c.2.2.2.2.2.2.2.2.2.2.2.1.length 3309 with
  | false => rfl
  | true =>
  rw [if_neg (by simp)]
  exact s17 h hp _
theorem s13 {c : Ms} (h : msOk c) (hp : 0 ≤ c.2.2.2.2.2.2.2.2.1 ∧ c.2.2.2.2.2.2.2.2.1 ≤ 256) {β : Type} (ke : (Int × Unit) → Option β) : p_ref21_Check_s13_F 0 β (c.1, 1024, c) ke = ke (erS (ok15 c (mostS c.1)), ()) := by
  unfold p_ref21_Check_s13_F mostS
  dsimp only
  by_cases h1 : c.1 = 1
  · rw [if_pos h1, if_pos h1]
    exact s15 h hp (by omega) _
  · rw [if_neg h1, if_neg h1]
    exact s15 h hp (by omega) _
theorem s12 {c : Ms} (h : msOk c) (hp : 0 ≤ c.2.2.2.2.2.2.2.2.1 ∧ c.2.2.2.2.2.2.2.2.1 ≤ 256) {β : Type} (ke : (Int × Unit) → Option β) : p_ref21_Check_s12_F 0 β (c.1, c) ke = ke (erS (ok15 c (mostS c.1)), ()) := by
  unfold p_ref21_Check_s12_F
  dsimp only
  exact s13 h hp _
theorem s10 {c : Ms} (h : msOk c) (hp : 0 ≤ c.2.2.2.2.2.2.2.2.1 ∧ c.2.2.2.2.2.2.2.2.1 ≤ 256) {β : Type} (ke : (Int × Unit) → Option β) : p_ref21_Check_s10_F 0 β (c.1, c) ke = ke (erS (ok10 c), ()) := by
  unfold p_ref21_Check_s10_F ok10 partB
  dsimp only
  rw [at_has' h.1 (by omega)]
  simp only [Option.bind_some]
  cases hasB c.1 112 with
  | false =>
    rw [if_pos (by simp), if_neg (show ¬ (false = true) by simp)]
    by_cases h0 : c.2.2.2.2.2.2.2.1 = 0
    · rw [if_neg (fun g => g h0), if_neg (by simp), decide_eq_true h0, Bool.true_and]
      exact s12 h hp _
    · rw [if_pos h0, decide_eq_false h0]
      rfl
  | true =>
    rw [if_neg (by simp), if_pos rfl, if_pos rfl]
    by_cases h0 : c.2.2.2.2.2.2.2.1 < 0
    · rw [if_pos h0, decide_eq_false (by omega)]
      rfl
    by_cases h1 : c.2.2.2.2.2.2.2.1 ≥ c.2.2.2.2.2.2.2.2.1
    · rw [if_neg h0, if_pos h1, decide_eq_false (by omega)]
      rfl
    rw [if_neg h0, if_neg h1, decide_eq_true (by omega), Bool.true_and]
    exact s12 h hp _
theorem s8 {c : Ms} (h : msOk c) {β : Type} (ke : (Int × Unit) → Option β) : p_ref21_Check_s8_F 0 β (c.1, c) ke = ke (erS (ok8 c), ()) := by
  unfold p_ref21_Check_s8_F ok8 partsB
  dsimp only
  rw [at_has' h.1 (by omega)]
  simp only [Option.bind_some]
  cases hasB c.1 110 with
  | false =>
    rw [if_pos (by simp), if_neg (show ¬ (false = true) by simp)]
    by_cases h0 : c.2.2.2.2.2.2.2.2.1 = 0
    · rw [if_neg (fun g => g h0), if_neg (by simp), decide_eq_true h0, Bool.true_and]
      exact s10 h (by omega) _
    · rw [if_pos h0, decide_eq_false h0]
      rfl
  | true =>
    rw [if_neg (by simp), if_pos rfl, if_pos rfl]
    by_cases h0 : c.2.2.2.2.2.2.2.2.1 < 1
    · rw [if_pos h0, decide_eq_false (by omega)]
      rfl
    by_cases h1 : c.2.2.2.2.2.2.2.2.1 > 256
    · rw [if_neg h0, if_pos h1, decide_eq_false (by omega)]
      rfl
    rw [if_neg h0, if_neg h1, decide_eq_true (by omega), Bool.true_and]
    exact s10 h (by omega) _
theorem has_kr (k : Int) : hasB k 107 = hasB k 114 := by
  have hk : k = 1 ∨ k = 2 ∨ k = 3 ∨ k = 4 ∨ k = 5 ∨ k = 6 ∨ (k ≠ 1 ∧ k ≠ 2 ∧ k ≠ 3 ∧ k ≠ 4 ∧ k ≠ 5 ∧ k ≠ 6) := by omega
  rcases hk with rfl | rfl | rfl | rfl | rfl | rfl | ⟨g1, g2, g3, g4, g5, g6⟩
  all_goals first | decide | (unfold hasB hasS; rw [if_neg g1, if_neg g2, if_neg g3, if_neg g4, if_neg g5, if_neg g6]; rfl)
theorem s6 {c : Ms} (h : msOk c) {β : Type} (ke : (Int × Unit) → Option β) : p_ref21_Check_s6_F 0 β (c.1, c) ke = ke (erS (ok6 c), ()) := by
  have h2 := h
  obtain ⟨h1, _, _, _, _, h6, h7, _⟩ := h2
  unfold p_ref21_Check_s6_F ok6 rangedS
  dsimp only
  rw [at_has' h1 (by omega), at_has' h1 (by omega), at_One h6 h7]
  simp only [Option.bind_some]
  rw [has_kr]
  cases hasB c.1 114 with
  | false =>
    rw [if_pos (by simp), if_neg (show ¬ (false = true) by simp)]
    by_cases h0 : c.2.2.2.2.1 = 0
    · rw [if_neg (fun g => g h0), if_pos (by simp)]
      by_cases hz : c.2.2.2.2.2.1 = 0 ∧ c.2.2.2.2.2.2.1 = 0
      · rw [if_neg (fun g => g (two_zero.2 hz)), if_neg (by simp), decide_eq_true ⟨hz.1, hz.2, h0⟩, Bool.true_and]
        exact s8 h _
      · rw [if_pos (fun g => hz (two_zero.1 g)), decide_eq_false (fun g => hz ⟨g.1, g.2.1⟩)]
        rfl
    · rw [if_pos h0, decide_eq_false (fun g => h0 g.2.2)]
      rfl
  | true =>
    rw [if_neg (by simp), if_neg (by simp), if_pos rfl, if_pos rfl]
    cases oneS c.2.2.2.2.2.1 c.2.2.2.2.2.2.1 with
    | false => rfl
    | true =>
      rw [if_neg (by simp), Bool.true_and]
      exact s8 h _
theorem parted_eq (c : Ms) : partedS c = (partsB c && partB c) := by
  unfold partedS partsB partB
  cases hasB c.1 110 with
  | true =>
    rw [if_pos rfl]
    by_cases h : 1 ≤ c.2.2.2.2.2.2.2.2.1 ∧ c.2.2.2.2.2.2.2.2.1 ≤ 256
    · rw [decide_eq_true h, decide_eq_true (show 0 ≤ c.2.2.2.2.2.2.2.2.1 ∧ c.2.2.2.2.2.2.2.2.1 ≤ 256 by omega), decide_eq_true (show true = decide (c.2.2.2.2.2.2.2.2.1 ≠ 0) from (decide_eq_true (by omega)).symm)]
      simp only [Bool.true_and]
    · rw [decide_eq_false h, Bool.false_and]
      by_cases h0 : c.2.2.2.2.2.2.2.2.1 = 0
      · rw [decide_eq_false (fun g => (of_decide_eq_true g.symm) h0), Bool.false_and]
      · rw [decide_eq_false (show ¬ (0 ≤ c.2.2.2.2.2.2.2.2.1 ∧ c.2.2.2.2.2.2.2.2.1 ≤ 256) by omega), Bool.false_and, Bool.and_false]
  | false =>
    rw [if_neg (show ¬ (false = true) by simp)]
    by_cases h0 : c.2.2.2.2.2.2.2.2.1 = 0
    · rw [decide_eq_true h0, decide_eq_true (show 0 ≤ c.2.2.2.2.2.2.2.2.1 ∧ c.2.2.2.2.2.2.2.2.1 ≤ 256 by omega), decide_eq_true (show false = decide (c.2.2.2.2.2.2.2.2.1 ≠ 0) from (decide_eq_false (fun g => g h0)).symm)]
      simp only [Bool.true_and]
    · rw [decide_eq_false h0, decide_eq_false (fun g => (of_decide_eq_false g.symm) h0), Bool.false_and, Bool.false_and]
theorem q_ref21_Check : ∀ x r, g_ref21_Check x = some r → ∃ N, p_ref21_Check N x = some r := by
  refine Spec_of (ks := p_ref21_Check_ks) (rs := p_ref21_Check_rs) fun x hw hq => ⟨0, ?_⟩
  obtain ⟨(c : Ms), u⟩ := x
  have hc : msOk c := wf_ms.1 hw.1
  show p_ref21_Check 0 (c, u) = some (checkS c)
  unfold p_ref21_Check checkS
  dsimp only
  rw [at_Name' hc.1, Option.bind_some]
  by_cases hn : nameT c.1 = ⟨#[]⟩
  · rw [if_pos hn, if_pos hn]
  rw [if_neg hn, if_neg hn]
  have no : (¬ (devS c.2.1 = true) ∨ ¬ (devS c.2.2.1 = true) ∨ c.2.1 = c.2.2.1) → okS c = false := by
    intro h
    rw [Bool.eq_false_iff]
    intro g
    unfold okS at g
    simp only [Bool.and_eq_true, decide_eq_true_eq] at g
    obtain ⟨g1, g2, g3, _⟩ := g
    rcases h with h | h | h
    · exact h g1
    · exact h g2
    · exact g3 h
  have dv : ∀ n : Int, (n < 0 ∨ n > 15) → ¬ (devS n = true) := fun n h g => by
    unfold devS at g
    have := of_decide_eq_true g
    omega
  by_cases a1 : c.2.1 < 0
  · rw [if_pos a1, no (.inl (dv _ (.inl a1)))]; rfl
  by_cases a2 : c.2.1 > 15
  · rw [if_neg a1, if_pos a2, no (.inl (dv _ (.inr a2)))]; rfl
  by_cases a3 : c.2.2.1 < 0
  · rw [if_neg a1, if_neg a2, if_pos a3, no (.inr (.inl (dv _ (.inl a3))))]; rfl
  by_cases a4 : c.2.2.1 > 15
  · rw [if_neg a1, if_neg a2, if_neg a3, if_pos a4, no (.inr (.inl (dv _ (.inr a4))))]; rfl
  by_cases a5 : c.2.1 = c.2.2.1
  · rw [if_neg a1, if_neg a2, if_neg a3, if_neg a4, if_pos a5, no (.inr (.inr a5))]; rfl
  rw [if_neg a1, if_neg a2, if_neg a3, if_neg a4, if_neg a5]
  refine (s6 hc _).trans ?_
  have : okS c = ok6 c := by
    unfold okS ok6 ok8 ok10 ok15 ok17
    rw [parted_eq, show devS c.2.1 = true from decide_eq_true (by omega), show devS c.2.2.1 = true from decide_eq_true (by omega), decide_eq_true a5]
    simp only [Bool.true_and, Bool.and_assoc]
  rw [this]
  rfl
theorem at_Check' {c : Ms} (h : msOk c) : g_ref21_Check (c, ()) = some (checkS c) := Spec_at (ks := p_ref21_Check_ks) (rs := p_ref21_Check_rs) (x := (c, ())) ⟨wf_ms.2 h, trivial⟩ trivial
end Go.Ax.TryP
/-! ### The reference's form; the law of puts -/
set_option linter.unusedVariables false
set_option linter.unusedSimpArgs false
namespace Go.Ax.TryP
structure Rs' (fr to tid key lo hi pt pts : Int) (d ce sg : List Int) : Prop where
  b4 : g_ref01_Big (IntKind.u64.wrap tid, 4, ()) = some (bigS tid 4)
  b5 : g_ref01_Big (IntKind.u64.wrap key, 4, ()) = some (bigS key 4)
  b6 : g_ref01_Big (lo, 8, ()) = some (bigS lo 8)
  b7 : g_ref01_Big (hi, 8, ()) = some (bigS hi 8)
  b8 : g_ref01_Big (IntKind.u64.wrap pt, 2, ()) = some (bigS pt 2)
  b9 : g_ref01_Big (IntKind.u64.wrap pts, 2, ()) = some (bigS pts 2)
  t10 : g_ref21_text (d, ()) = some (bigS (d.length : Int) 2 ++ d)
  t11 : g_ref21_text (ce, ()) = some (bigS (ce.length : Int) 2 ++ ce)
  t12 : g_ref21_text (sg, ()) = some (bigS (sg.length : Int) 2 ++ sg)
  l10 : d.length ≤ 60000
  l11 : ce.length ≤ 60000
  l12 : sg.length ≤ 60000
  y10 : bytes d
  y11 : bytes ce
  y12 : bytes sg
theorem head_set (k fr to : Int) : List.set (List.set (List.set (List.replicate 3 (0 : Int)) 0 (IntKind.u8.wrap k)) 1 (IntKind.u8.wrap fr)) 2 (IntKind.u8.wrap to) = [k % 256, fr % 256, to % 256] := by rw [wrap_u8_mod, wrap_u8_mod, wrap_u8_mod]; rfl
theorem bytes_three (a b c : Int) : bytes [a % 256, b % 256, c % 256] := fun z hz => by
  simp only [List.mem_cons, List.not_mem_nil, or_false] at hz
  omega
theorem rform_1 {fr to tid key lo hi pt pts : Int} {d ce sg : List Int} (B : Rs' fr to tid key lo hi pt pts d ce sg) (all : Bool) : p_ref21_form 0 ((1, fr, to, tid, key, lo, hi, pt, pts, d, ce, sg, ()), all, ()) = some (formS (1, fr, to, tid, key, lo, hi, pt, pts, d, ce, sg, ()) all) := by
  have l10 := B.l10
  have l11 := B.l11
  have l12 := B.l12
  unfold p_ref21_form
  dsimp only
  rw [B.b4, Option.bind_some, head_set, rjoin2 (by simp only [List.length_append, bigS_len, List.length_cons, List.length_nil]; omega) (by simp only [List.length_append, bigS_len, List.length_cons, List.length_nil]; omega) (by simp only [bytes_app, bigS_bytes, bytes_three, B.y10, B.y11, B.y12, and_self]) (by simp only [bytes_app, bigS_bytes, bytes_three, B.y10, B.y11, B.y12, and_self]), Option.bind_some, if_pos (show (1 : Int) = 1 from rfl), B.b5, Option.bind_some, rjoin2 (by simp only [List.length_append, bigS_len, List.length_cons, List.length_nil]; omega) (by simp only [List.length_append, bigS_len, List.length_cons, List.length_nil]; omega) (by simp only [bytes_app, bigS_bytes, bytes_three, B.y10, B.y11, B.y12, and_self]) (by simp only [bytes_app, bigS_bytes, bytes_three, B.y10, B.y11, B.y12, and_self]), Option.bind_some, B.b6, Option.bind_some, B.b7, Option.bind_some, rjoin3 (by simp only [List.length_append, bigS_len, List.length_cons, List.length_nil]; omega) (by simp only [List.length_append, bigS_len, List.length_cons, List.length_nil]; omega) (by simp only [List.length_append, bigS_len, List.length_cons, List.length_nil]; omega) (by simp only [bytes_app, bigS_bytes, bytes_three, B.y10, B.y11, B.y12, and_self]) (by simp only [bytes_app, bigS_bytes, bytes_three, B.y10, B.y11, B.y12, and_self]) (by simp only [bytes_app, bigS_bytes, bytes_three, B.y10, B.y11, B.y12, and_self]), Option.bind_some, B.t10, Option.bind_some, rjoin2 (by simp only [List.length_append, bigS_len, List.length_cons, List.length_nil]; omega) (by simp only [List.length_append, bigS_len, List.length_cons, List.length_nil]; omega) (by simp only [bytes_app, bigS_bytes, bytes_three, B.y10, B.y11, B.y12, and_self]) (by simp only [bytes_app, bigS_bytes, bytes_three, B.y10, B.y11, B.y12, and_self]), Option.bind_some, B.t11, Option.bind_some, rjoin2 (by simp only [List.length_append, bigS_len, List.length_cons, List.length_nil]; omega) (by simp only [List.length_append, bigS_len, List.length_cons, List.length_nil]; omega) (by simp only [bytes_app, bigS_bytes, bytes_three, B.y10, B.y11, B.y12, and_self]) (by simp only [bytes_app, bigS_bytes, bytes_three, B.y10, B.y11, B.y12, and_self]), Option.bind_some]
  simp [formS, headS, hasS, fieldS]
theorem rform_2_t {fr to tid key lo hi pt pts : Int} {d ce sg : List Int} (B : Rs' fr to tid key lo hi pt pts d ce sg) : p_ref21_form 0 ((2, fr, to, tid, key, lo, hi, pt, pts, d, ce, sg, ()), true, ()) = some (formS (2, fr, to, tid, key, lo, hi, pt, pts, d, ce, sg, ()) true) := by
  have l10 := B.l10
  have l11 := B.l11
  have l12 := B.l12
  unfold p_ref21_form
  dsimp only
  rw [B.b4, Option.bind_some, head_set, rjoin2 (by simp only [List.length_append, bigS_len, List.length_cons, List.length_nil]; omega) (by simp only [List.length_append, bigS_len, List.length_cons, List.length_nil]; omega) (by simp only [bytes_app, bigS_bytes, bytes_three, B.y10, B.y11, B.y12, and_self]) (by simp only [bytes_app, bigS_bytes, bytes_three, B.y10, B.y11, B.y12, and_self]), Option.bind_some, if_neg (by omega), if_pos (show (2 : Int) = 2 from rfl), B.b5, Option.bind_some, rjoin2 (by simp only [List.length_append, bigS_len, List.length_cons, List.length_nil]; omega) (by simp only [List.length_append, bigS_len, List.length_cons, List.length_nil]; omega) (by simp only [bytes_app, bigS_bytes, bytes_three, B.y10, B.y11, B.y12, and_self]) (by simp only [bytes_app, bigS_bytes, bytes_three, B.y10, B.y11, B.y12, and_self]), Option.bind_some, B.b6, Option.bind_some, B.b7, Option.bind_some, rjoin3 (by simp only [List.length_append, bigS_len, List.length_cons, List.length_nil]; omega) (by simp only [List.length_append, bigS_len, List.length_cons, List.length_nil]; omega) (by simp only [List.length_append, bigS_len, List.length_cons, List.length_nil]; omega) (by simp only [bytes_app, bigS_bytes, bytes_three, B.y10, B.y11, B.y12, and_self]) (by simp only [bytes_app, bigS_bytes, bytes_three, B.y10, B.y11, B.y12, and_self]) (by simp only [bytes_app, bigS_bytes, bytes_three, B.y10, B.y11, B.y12, and_self]), Option.bind_some, B.t11, Option.bind_some, rjoin2 (by simp only [List.length_append, bigS_len, List.length_cons, List.length_nil]; omega) (by simp only [List.length_append, bigS_len, List.length_cons, List.length_nil]; omega) (by simp only [bytes_app, bigS_bytes, bytes_three, B.y10, B.y11, B.y12, and_self]) (by simp only [bytes_app, bigS_bytes, bytes_three, B.y10, B.y11, B.y12, and_self]), Option.bind_some, if_pos (show true = true from rfl), B.t12, Option.bind_some, rjoin2 (by simp only [List.length_append, bigS_len, List.length_cons, List.length_nil]; omega) (by simp only [List.length_append, bigS_len, List.length_cons, List.length_nil]; omega) (by simp only [bytes_app, bigS_bytes, bytes_three, B.y10, B.y11, B.y12, and_self]) (by simp only [bytes_app, bigS_bytes, bytes_three, B.y10, B.y11, B.y12, and_self]), Option.bind_some]
  simp [formS, headS, hasS, fieldS]
theorem rform_2_f {fr to tid key lo hi pt pts : Int} {d ce sg : List Int} (B : Rs' fr to tid key lo hi pt pts d ce sg) : p_ref21_form 0 ((2, fr, to, tid, key, lo, hi, pt, pts, d, ce, sg, ()), false, ()) = some (formS (2, fr, to, tid, key, lo, hi, pt, pts, d, ce, sg, ()) false) := by
  have l10 := B.l10
  have l11 := B.l11
  have l12 := B.l12
  unfold p_ref21_form
  dsimp only
  rw [B.b4, Option.bind_some, head_set, rjoin2 (by simp only [List.length_append, bigS_len, List.length_cons, List.length_nil]; omega) (by simp only [List.length_append, bigS_len, List.length_cons, List.length_nil]; omega) (by simp only [bytes_app, bigS_bytes, bytes_three, B.y10, B.y11, B.y12, and_self]) (by simp only [bytes_app, bigS_bytes, bytes_three, B.y10, B.y11, B.y12, and_self]), Option.bind_some, if_neg (by omega), if_pos (show (2 : Int) = 2 from rfl), B.b5, Option.bind_some, rjoin2 (by simp only [List.length_append, bigS_len, List.length_cons, List.length_nil]; omega) (by simp only [List.length_append, bigS_len, List.length_cons, List.length_nil]; omega) (by simp only [bytes_app, bigS_bytes, bytes_three, B.y10, B.y11, B.y12, and_self]) (by simp only [bytes_app, bigS_bytes, bytes_three, B.y10, B.y11, B.y12, and_self]), Option.bind_some, B.b6, Option.bind_some, B.b7, Option.bind_some, rjoin3 (by simp only [List.length_append, bigS_len, List.length_cons, List.length_nil]; omega) (by simp only [List.length_append, bigS_len, List.length_cons, List.length_nil]; omega) (by simp only [List.length_append, bigS_len, List.length_cons, List.length_nil]; omega) (by simp only [bytes_app, bigS_bytes, bytes_three, B.y10, B.y11, B.y12, and_self]) (by simp only [bytes_app, bigS_bytes, bytes_three, B.y10, B.y11, B.y12, and_self]) (by simp only [bytes_app, bigS_bytes, bytes_three, B.y10, B.y11, B.y12, and_self]), Option.bind_some, B.t11, Option.bind_some, rjoin2 (by simp only [List.length_append, bigS_len, List.length_cons, List.length_nil]; omega) (by simp only [List.length_append, bigS_len, List.length_cons, List.length_nil]; omega) (by simp only [bytes_app, bigS_bytes, bytes_three, B.y10, B.y11, B.y12, and_self]) (by simp only [bytes_app, bigS_bytes, bytes_three, B.y10, B.y11, B.y12, and_self]), Option.bind_some, if_neg (show ¬ (false = true) by simp)]
  simp [formS, headS, hasS, fieldS]
theorem rform_3 {fr to tid key lo hi pt pts : Int} {d ce sg : List Int} (B : Rs' fr to tid key lo hi pt pts d ce sg) (all : Bool) : p_ref21_form 0 ((3, fr, to, tid, key, lo, hi, pt, pts, d, ce, sg, ()), all, ()) = some (formS (3, fr, to, tid, key, lo, hi, pt, pts, d, ce, sg, ()) all) := by
  have l10 := B.l10
  have l11 := B.l11
  have l12 := B.l12
  unfold p_ref21_form
  dsimp only
  rw [B.b4, Option.bind_some, head_set, rjoin2 (by simp only [List.length_append, bigS_len, List.length_cons, List.length_nil]; omega) (by simp only [List.length_append, bigS_len, List.length_cons, List.length_nil]; omega) (by simp only [bytes_app, bigS_bytes, bytes_three, B.y10, B.y11, B.y12, and_self]) (by simp only [bytes_app, bigS_bytes, bytes_three, B.y10, B.y11, B.y12, and_self]), Option.bind_some, if_neg (by omega), if_neg (by omega), if_pos (show (3 : Int) = 3 from rfl), B.b8, Option.bind_some, rjoin2 (by simp only [List.length_append, bigS_len, List.length_cons, List.length_nil]; omega) (by simp only [List.length_append, bigS_len, List.length_cons, List.length_nil]; omega) (by simp only [bytes_app, bigS_bytes, bytes_three, B.y10, B.y11, B.y12, and_self]) (by simp only [bytes_app, bigS_bytes, bytes_three, B.y10, B.y11, B.y12, and_self]), Option.bind_some, B.b9, Option.bind_some, rjoin2 (by simp only [List.length_append, bigS_len, List.length_cons, List.length_nil]; omega) (by simp only [List.length_append, bigS_len, List.length_cons, List.length_nil]; omega) (by simp only [bytes_app, bigS_bytes, bytes_three, B.y10, B.y11, B.y12, and_self]) (by simp only [bytes_app, bigS_bytes, bytes_three, B.y10, B.y11, B.y12, and_self]), Option.bind_some, B.t10, Option.bind_some, rjoin2 (by simp only [List.length_append, bigS_len, List.length_cons, List.length_nil]; omega) (by simp only [List.length_append, bigS_len, List.length_cons, List.length_nil]; omega) (by simp only [bytes_app, bigS_bytes, bytes_three, B.y10, B.y11, B.y12, and_self]) (by simp only [bytes_app, bigS_bytes, bytes_three, B.y10, B.y11, B.y12, and_self]), Option.bind_some]
  simp [formS, headS, hasS, fieldS]
theorem rform_4 {fr to tid key lo hi pt pts : Int} {d ce sg : List Int} (B : Rs' fr to tid key lo hi pt pts d ce sg) (all : Bool) : p_ref21_form 0 ((4, fr, to, tid, key, lo, hi, pt, pts, d, ce, sg, ()), all, ()) = some (formS (4, fr, to, tid, key, lo, hi, pt, pts, d, ce, sg, ()) all) := by
  have l10 := B.l10
  have l11 := B.l11
  have l12 := B.l12
  unfold p_ref21_form
  dsimp only
  rw [B.b4, Option.bind_some, head_set, rjoin2 (by simp only [List.length_append, bigS_len, List.length_cons, List.length_nil]; omega) (by simp only [List.length_append, bigS_len, List.length_cons, List.length_nil]; omega) (by simp only [bytes_app, bigS_bytes, bytes_three, B.y10, B.y11, B.y12, and_self]) (by simp only [bytes_app, bigS_bytes, bytes_three, B.y10, B.y11, B.y12, and_self]), Option.bind_some, if_neg (by omega), if_neg (by omega), if_neg (by omega), if_pos (show (4 : Int) = 4 from rfl), B.b9, Option.bind_some, rjoin2 (by simp only [List.length_append, bigS_len, List.length_cons, List.length_nil]; omega) (by simp only [List.length_append, bigS_len, List.length_cons, List.length_nil]; omega) (by simp only [bytes_app, bigS_bytes, bytes_three, B.y10, B.y11, B.y12, and_self]) (by simp only [bytes_app, bigS_bytes, bytes_three, B.y10, B.y11, B.y12, and_self]), Option.bind_some, B.t10, Option.bind_some, rjoin2 (by simp only [List.length_append, bigS_len, List.length_cons, List.length_nil]; omega) (by simp only [List.length_append, bigS_len, List.length_cons, List.length_nil]; omega) (by simp only [bytes_app, bigS_bytes, bytes_three, B.y10, B.y11, B.y12, and_self]) (by simp only [bytes_app, bigS_bytes, bytes_three, B.y10, B.y11, B.y12, and_self]), Option.bind_some]
  simp [formS, headS, hasS, fieldS]
theorem rform_5_t {fr to tid key lo hi pt pts : Int} {d ce sg : List Int} (B : Rs' fr to tid key lo hi pt pts d ce sg) : p_ref21_form 0 ((5, fr, to, tid, key, lo, hi, pt, pts, d, ce, sg, ()), true, ()) = some (formS (5, fr, to, tid, key, lo, hi, pt, pts, d, ce, sg, ()) true) := by
  have l10 := B.l10
  have l11 := B.l11
  have l12 := B.l12
  unfold p_ref21_form
  dsimp only
  rw [B.b4, Option.bind_some, head_set, rjoin2 (by simp only [List.length_append, bigS_len, List.length_cons, List.length_nil]; omega) (by simp only [List.length_append, bigS_len, List.length_cons, List.length_nil]; omega) (by simp only [bytes_app, bigS_bytes, bytes_three, B.y10, B.y11, B.y12, and_self]) (by simp only [bytes_app, bigS_bytes, bytes_three, B.y10, B.y11, B.y12, and_self]), Option.bind_some, if_neg (by omega), if_neg (by omega), if_neg (by omega), if_neg (by omega), if_pos (show (5 : Int) = 5 from rfl), B.b5, Option.bind_some, rjoin2 (by simp only [List.length_append, bigS_len, List.length_cons, List.length_nil]; omega) (by simp only [List.length_append, bigS_len, List.length_cons, List.length_nil]; omega) (by simp only [bytes_app, bigS_bytes, bytes_three, B.y10, B.y11, B.y12, and_self]) (by simp only [bytes_app, bigS_bytes, bytes_three, B.y10, B.y11, B.y12, and_self]), Option.bind_some, B.b6, Option.bind_some, B.b7, Option.bind_some, rjoin3 (by simp only [List.length_append, bigS_len, List.length_cons, List.length_nil]; omega) (by simp only [List.length_append, bigS_len, List.length_cons, List.length_nil]; omega) (by simp only [List.length_append, bigS_len, List.length_cons, List.length_nil]; omega) (by simp only [bytes_app, bigS_bytes, bytes_three, B.y10, B.y11, B.y12, and_self]) (by simp only [bytes_app, bigS_bytes, bytes_three, B.y10, B.y11, B.y12, and_self]) (by simp only [bytes_app, bigS_bytes, bytes_three, B.y10, B.y11, B.y12, and_self]), Option.bind_some, if_pos (show true = true from rfl), B.t12, Option.bind_some, rjoin2 (by simp only [List.length_append, bigS_len, List.length_cons, List.length_nil]; omega) (by simp only [List.length_append, bigS_len, List.length_cons, List.length_nil]; omega) (by simp only [bytes_app, bigS_bytes, bytes_three, B.y10, B.y11, B.y12, and_self]) (by simp only [bytes_app, bigS_bytes, bytes_three, B.y10, B.y11, B.y12, and_self]), Option.bind_some]
  simp [formS, headS, hasS, fieldS]
theorem rform_5_f {fr to tid key lo hi pt pts : Int} {d ce sg : List Int} (B : Rs' fr to tid key lo hi pt pts d ce sg) : p_ref21_form 0 ((5, fr, to, tid, key, lo, hi, pt, pts, d, ce, sg, ()), false, ()) = some (formS (5, fr, to, tid, key, lo, hi, pt, pts, d, ce, sg, ()) false) := by
  have l10 := B.l10
  have l11 := B.l11
  have l12 := B.l12
  unfold p_ref21_form
  dsimp only
  rw [B.b4, Option.bind_some, head_set, rjoin2 (by simp only [List.length_append, bigS_len, List.length_cons, List.length_nil]; omega) (by simp only [List.length_append, bigS_len, List.length_cons, List.length_nil]; omega) (by simp only [bytes_app, bigS_bytes, bytes_three, B.y10, B.y11, B.y12, and_self]) (by simp only [bytes_app, bigS_bytes, bytes_three, B.y10, B.y11, B.y12, and_self]), Option.bind_some, if_neg (by omega), if_neg (by omega), if_neg (by omega), if_neg (by omega), if_pos (show (5 : Int) = 5 from rfl), B.b5, Option.bind_some, rjoin2 (by simp only [List.length_append, bigS_len, List.length_cons, List.length_nil]; omega) (by simp only [List.length_append, bigS_len, List.length_cons, List.length_nil]; omega) (by simp only [bytes_app, bigS_bytes, bytes_three, B.y10, B.y11, B.y12, and_self]) (by simp only [bytes_app, bigS_bytes, bytes_three, B.y10, B.y11, B.y12, and_self]), Option.bind_some, B.b6, Option.bind_some, B.b7, Option.bind_some, rjoin3 (by simp only [List.length_append, bigS_len, List.length_cons, List.length_nil]; omega) (by simp only [List.length_append, bigS_len, List.length_cons, List.length_nil]; omega) (by simp only [List.length_append, bigS_len, List.length_cons, List.length_nil]; omega) (by simp only [bytes_app, bigS_bytes, bytes_three, B.y10, B.y11, B.y12, and_self]) (by simp only [bytes_app, bigS_bytes, bytes_three, B.y10, B.y11, B.y12, and_self]) (by simp only [bytes_app, bigS_bytes, bytes_three, B.y10, B.y11, B.y12, and_self]), Option.bind_some, if_neg (show ¬ (false = true) by simp)]
  simp [formS, headS, hasS, fieldS]
theorem rform_6_t {fr to tid key lo hi pt pts : Int} {d ce sg : List Int} (B : Rs' fr to tid key lo hi pt pts d ce sg) : p_ref21_form 0 ((6, fr, to, tid, key, lo, hi, pt, pts, d, ce, sg, ()), true, ()) = some (formS (6, fr, to, tid, key, lo, hi, pt, pts, d, ce, sg, ()) true) := by
  have l10 := B.l10
  have l11 := B.l11
  have l12 := B.l12
  unfold p_ref21_form
  dsimp only
  rw [B.b4, Option.bind_some, head_set, rjoin2 (by simp only [List.length_append, bigS_len, List.length_cons, List.length_nil]; omega) (by simp only [List.length_append, bigS_len, List.length_cons, List.length_nil]; omega) (by simp only [bytes_app, bigS_bytes, bytes_three, B.y10, B.y11, B.y12, and_self]) (by simp only [bytes_app, bigS_bytes, bytes_three, B.y10, B.y11, B.y12, and_self]), Option.bind_some, if_neg (by omega), if_neg (by omega), if_neg (by omega), if_neg (by omega), if_neg (by omega), if_pos (show (6 : Int) = 6 from rfl), B.b5, Option.bind_some, rjoin2 (by simp only [List.length_append, bigS_len, List.length_cons, List.length_nil]; omega) (by simp only [List.length_append, bigS_len, List.length_cons, List.length_nil]; omega) (by simp only [bytes_app, bigS_bytes, bytes_three, B.y10, B.y11, B.y12, and_self]) (by simp only [bytes_app, bigS_bytes, bytes_three, B.y10, B.y11, B.y12, and_self]), Option.bind_some, B.b6, Option.bind_some, B.b7, Option.bind_some, rjoin3 (by simp only [List.length_append, bigS_len, List.length_cons, List.length_nil]; omega) (by simp only [List.length_append, bigS_len, List.length_cons, List.length_nil]; omega) (by simp only [List.length_append, bigS_len, List.length_cons, List.length_nil]; omega) (by simp only [bytes_app, bigS_bytes, bytes_three, B.y10, B.y11, B.y12, and_self]) (by simp only [bytes_app, bigS_bytes, bytes_three, B.y10, B.y11, B.y12, and_self]) (by simp only [bytes_app, bigS_bytes, bytes_three, B.y10, B.y11, B.y12, and_self]), Option.bind_some, if_pos (show true = true from rfl), B.t12, Option.bind_some, rjoin2 (by simp only [List.length_append, bigS_len, List.length_cons, List.length_nil]; omega) (by simp only [List.length_append, bigS_len, List.length_cons, List.length_nil]; omega) (by simp only [bytes_app, bigS_bytes, bytes_three, B.y10, B.y11, B.y12, and_self]) (by simp only [bytes_app, bigS_bytes, bytes_three, B.y10, B.y11, B.y12, and_self]), Option.bind_some]
  simp [formS, headS, hasS, fieldS]
theorem rform_6_f {fr to tid key lo hi pt pts : Int} {d ce sg : List Int} (B : Rs' fr to tid key lo hi pt pts d ce sg) : p_ref21_form 0 ((6, fr, to, tid, key, lo, hi, pt, pts, d, ce, sg, ()), false, ()) = some (formS (6, fr, to, tid, key, lo, hi, pt, pts, d, ce, sg, ()) false) := by
  have l10 := B.l10
  have l11 := B.l11
  have l12 := B.l12
  unfold p_ref21_form
  dsimp only
  rw [B.b4, Option.bind_some, head_set, rjoin2 (by simp only [List.length_append, bigS_len, List.length_cons, List.length_nil]; omega) (by simp only [List.length_append, bigS_len, List.length_cons, List.length_nil]; omega) (by simp only [bytes_app, bigS_bytes, bytes_three, B.y10, B.y11, B.y12, and_self]) (by simp only [bytes_app, bigS_bytes, bytes_three, B.y10, B.y11, B.y12, and_self]), Option.bind_some, if_neg (by omega), if_neg (by omega), if_neg (by omega), if_neg (by omega), if_neg (by omega), if_pos (show (6 : Int) = 6 from rfl), B.b5, Option.bind_some, rjoin2 (by simp only [List.length_append, bigS_len, List.length_cons, List.length_nil]; omega) (by simp only [List.length_append, bigS_len, List.length_cons, List.length_nil]; omega) (by simp only [bytes_app, bigS_bytes, bytes_three, B.y10, B.y11, B.y12, and_self]) (by simp only [bytes_app, bigS_bytes, bytes_three, B.y10, B.y11, B.y12, and_self]), Option.bind_some, B.b6, Option.bind_some, B.b7, Option.bind_some, rjoin3 (by simp only [List.length_append, bigS_len, List.length_cons, List.length_nil]; omega) (by simp only [List.length_append, bigS_len, List.length_cons, List.length_nil]; omega) (by simp only [List.length_append, bigS_len, List.length_cons, List.length_nil]; omega) (by simp only [bytes_app, bigS_bytes, bytes_three, B.y10, B.y11, B.y12, and_self]) (by simp only [bytes_app, bigS_bytes, bytes_three, B.y10, B.y11, B.y12, and_self]) (by simp only [bytes_app, bigS_bytes, bytes_three, B.y10, B.y11, B.y12, and_self]), Option.bind_some, if_neg (show ¬ (false = true) by simp)]
  simp [formS, headS, hasS, fieldS]
theorem rform_e {fr to tid key lo hi pt pts : Int} {d ce sg : List Int} (B : Rs' fr to tid key lo hi pt pts d ce sg) (all : Bool) {k : Int} (g : k ≠ 1 ∧ k ≠ 2 ∧ k ≠ 3 ∧ k ≠ 4 ∧ k ≠ 5 ∧ k ≠ 6) : p_ref21_form 0 ((k, fr, to, tid, key, lo, hi, pt, pts, d, ce, sg, ()), all, ()) = some (formS (k, fr, to, tid, key, lo, hi, pt, pts, d, ce, sg, ()) all) := by
  obtain ⟨g1, g2, g3, g4, g5, g6⟩ := g
  unfold p_ref21_form
  dsimp only
  rw [B.b4, Option.bind_some, head_set, rjoin2 (by simp only [List.length_append, bigS_len, List.length_cons, List.length_nil]; omega) (by simp only [List.length_append, bigS_len, List.length_cons, List.length_nil]; omega) (by simp only [bytes_app, bigS_bytes, bytes_three, B.y10, B.y11, B.y12, and_self]) (by simp only [bytes_app, bigS_bytes, bytes_three, B.y10, B.y11, B.y12, and_self]), Option.bind_some, if_neg g1, if_neg g2, if_neg g3, if_neg g4, if_neg g5, if_neg g6]
  simp [formS, headS, hasS, g1, g2, g3, g4, g5, g6]
theorem q_ref21_form : ∀ x r, g_ref21_form x = some r → ∃ N, p_ref21_form N x = some r := by
  refine Spec_of (ks := p_ref21_form_ks) (rs := p_ref21_form_rs) fun x hw hq => ⟨0, ?_⟩
  obtain ⟨(c : Ms), (all : Bool), u⟩ := x
  obtain ⟨h1, h2, h3, h4, h5, h6, h7, h8, h9, h10, h11, h12⟩ := wf_ms.1 hw.1
  obtain ⟨f2, f3, f8, f9, f10, f11, f12⟩ : fmOk c := hq
  show p_ref21_form 0 (c, all, u) = some (formS c all)
  obtain ⟨k, fr, to, tid, key, lo, hi, pt, pts, d, ce, sg, ⟨⟩⟩ := c
  dsimp only at h1 h2 h3 h4 h5 h6 h7 h8 h9 h10 h11 h12 f2 f3 f8 f9 f10 f11 f12
  have B : Rs' fr to tid key lo hi pt pts d ce sg := by
    refine ⟨?_, ?_, at_rBig h6 (w := 8) (by omega), at_rBig h7 (w := 8) (by omega), ?_, ?_, at_text f10 h10.2, at_text f11 h11.2, at_text f12 h12.2, f10, f11, f12, h10.2, h11.2, h12.2⟩
    · rw [wrap_u64' (by omega) (by omega)]; exact at_rBig (by omega) (w := 4) (by omega)
    · rw [wrap_u64' (by omega) (by omega)]; exact at_rBig (by omega) (w := 4) (by omega)
    · rw [wrap_u64' (by omega) (by omega)]; exact at_rBig (by omega) (w := 2) (by omega)
    · rw [wrap_u64' (by omega) (by omega)]; exact at_rBig (by omega) (w := 2) (by omega)
  have hk : k = 1 ∨ k = 2 ∨ k = 3 ∨ k = 4 ∨ k = 5 ∨ k = 6 ∨ (k ≠ 1 ∧ k ≠ 2 ∧ k ≠ 3 ∧ k ≠ 4 ∧ k ≠ 5 ∧ k ≠ 6) := by omega
  rcases hk with rfl | rfl | rfl | rfl | rfl | rfl | hk
  · exact rform_1 B all
  · cases all with
    | true => exact rform_2_t B
    | false => exact rform_2_f B
  · exact rform_3 B all
  · exact rform_4 B all
  · cases all with
    | true => exact rform_5_t B
    | false => exact rform_5_f B
  · cases all with
    | true => exact rform_6_t B
    | false => exact rform_6_f B
  · exact rform_e B all hk
theorem at_form' {c : Ms} (h : msOk c) (hf : fmOk c) (all : Bool) : g_ref21_form (c, all, ()) = some (formS c all) := Spec_at (ks := p_ref21_form_ks) (rs := p_ref21_form_rs) (x := (c, all, ())) ⟨wf_ms.2 h, trivial, trivial⟩ hf
theorem q_ref21_Put : ∀ x r, g_ref21_Put x = some r → ∃ N, p_ref21_Put N x = some r := by
  refine Spec_of (ks := p_ref21_Put_ks) (rs := p_ref21_Put_rs) fun x hw hq => ⟨0, ?_⟩
  obtain ⟨(c : Ms), u⟩ := x
  have hc : msOk c := wf_ms.1 hw.1
  show p_ref21_Put 0 (c, u) = some (putS c)
  unfold p_ref21_Put putS
  dsimp only
  rw [ms_eta, at_Check' hc, Option.bind_some]
  by_cases h : checkS c = 0
  · rw [if_neg (fun g => g h), if_pos h, at_form' hc (ok_fm (check_ok h)) true, Option.bind_some]
  · rw [if_pos h, if_neg h]
theorem at_Put' {c : Ms} (h : msOk c) : g_ref21_Put (c, ()) = some (putS c) := Spec_at (ks := p_ref21_Put_ks) (rs := p_ref21_Put_rs) (x := (c, ())) ⟨wf_ms.2 h, trivial⟩ trivial
theorem q_ref21_Words : ∀ x r, g_ref21_Words x = some r → ∃ N, p_ref21_Words N x = some r := by
  refine Spec_of (ks := p_ref21_Words_ks) (rs := p_ref21_Words_rs) fun x hw hq => ⟨0, ?_⟩
  obtain ⟨(c : Ms), u⟩ := x
  have hc : msOk c := wf_ms.1 hw.1
  show p_ref21_Words 0 (c, u) = some (wordsS c)
  unfold p_ref21_Words wordsS
  dsimp only
  rw [ms_eta, at_Check' hc, Option.bind_some]
  by_cases h : checkS c = 0
  · have hf := ok_fm (check_ok h)
    have hl := form_len_bytes hc hf false
    rw [if_neg (fun g => g h), at_has' hc.1 (by omega), Option.bind_some]
    by_cases hs : hasB c.1 115 = true
    · rw [if_neg (fun g => g hs), if_pos (show 0 < 14 by omega), if_pos ⟨h, hs⟩, at_form' hc hf false, Option.bind_some]
      exact congrArg (fun o => Option.bind o _) (rjoin2 (a := titleS) (by decide) hl.1 title_bytes hl.2)
    · rw [if_pos hs, if_neg (fun g => hs g.2)]
  · rw [if_pos h, if_neg (fun g => h g.1)]
theorem at_Words' {c : Ms} (h : msOk c) : g_ref21_Words (c, ()) = some (wordsS c) := Spec_at (ks := p_ref21_Words_ks) (rs := p_ref21_Words_rs) (x := (c, ())) ⟨wf_ms.2 h, trivial⟩ trivial
theorem q_ref21_Missing : ∀ x r, g_ref21_Missing x = some r → ∃ N, p_ref21_Missing N x = some r := by
  refine Spec_of (ks := p_ref21_Missing_ks) (rs := p_ref21_Missing_rs) fun x hw hq => ⟨258, ?_⟩
  obtain ⟨(c : Ms), u⟩ := x
  have hc : msOk c := wf_ms.1 hw.1
  have hc2 := hc
  obtain ⟨_, _, _, _, _, _, _, _, _, h10, _⟩ := hc2
  show p_ref21_Missing 258 (c, u) = some (missS c)
  unfold p_ref21_Missing missS
  dsimp only
  by_cases h4 : c.1 = 4
  rotate_left
  · rw [if_pos h4, if_neg (fun g => h4 g.1)]
  rw [if_neg (fun h => h h4), ms_eta, at_Check' hc, Option.bind_some]
  by_cases h : checkS c = 0
  rotate_left
  · rw [if_pos h, if_neg (fun g => h g.2)]
  obtain ⟨hp, hl⟩ := miss_facts h4 h
  obtain ⟨n, hn⟩ : ∃ n : Nat, c.2.2.2.2.2.2.2.2.1 = n := ⟨c.2.2.2.2.2.2.2.2.1.toNat, by omega⟩
  have hbl := bitsOf_len c.2.2.2.2.2.2.2.2.2.1
  rw [hn] at hp hl
  rw [if_neg (fun g => g h), if_pos ⟨h4, h⟩, at_Bits' (by omega) h10.2, Option.bind_some, hn, Int.toNat_natCast]
  generalize hb : bitsOf c.2.2.2.2.2.2.2.2.2.1 = b at hbl
  have hlen : (b.take n).length = n := by rw [List.length_take]; omega
  have hle := first_le (b.take n)
  rw [hlen] at hle
  have tk : ∀ i, i < n → (b.take n).getD i 0 = b.getD i 0 := fun i hi => by
    rw [List.getD_eq_getElem?_getD, List.getD_eq_getElem?_getD, List.getElem?_take, if_pos hi]
  have step : ∀ i, i < firstS (b.take n) → ∀ (kn ke : _), p_ref21_Missing_l5_F 258 Int (b.length, (n : Int), (i : Int), c.1, c.2.1, c.2.2.1, c.2.2.2.1, c.2.2.2.2.1, c.2.2.2.2.2.1, c.2.2.2.2.2.2.1, c.2.2.2.2.2.2.2.1, (n : Int), c.2.2.2.2.2.2.2.2.2.1, c.2.2.2.2.2.2.2.2.2.2.1, c.2.2.2.2.2.2.2.2.2.2.2.1, b.length, b, ()) kn ke
      = kn (b.length, (n : Int), ((i + 1 : Nat) : Int), c.1, c.2.1, c.2.2.1, c.2.2.2.1, c.2.2.2.2.1, c.2.2.2.2.2.1, c.2.2.2.2.2.2.1, c.2.2.2.2.2.2.2.1, (n : Int), c.2.2.2.2.2.2.2.2.2.1, c.2.2.2.2.2.2.2.2.2.2.1, c.2.2.2.2.2.2.2.2.2.2.2.1, b.length, b, ()) := by
    intro i hi kn ke
    have h0 := first_lt hi
    rw [tk i (by omega)] at h0
    unfold p_ref21_Missing_l5_F
    dsimp only
    rw [if_pos (by omega), if_pos (by omega), if_pos (by omega), Int.toNat_natCast, if_pos (by omega), if_neg (fun g => g h0), wrap_i64 (by omega) (by omega)]
    rfl
  by_cases hf : firstS (b.take n) < n
  · refine (iter_from (F := p_ref21_Missing_l5_F 258) (s := fun i => (b.length, (n : Int), (i : Int), c.1, c.2.1, c.2.2.1, c.2.2.2.1, c.2.2.2.2.1, c.2.2.2.2.2.1, c.2.2.2.2.2.2.1, c.2.2.2.2.2.2.2.1, (n : Int), c.2.2.2.2.2.2.2.2.2.1, c.2.2.2.2.2.2.2.2.2.2.1, c.2.2.2.2.2.2.2.2.2.2.2.1, b.length, b, ())) (y := .inl ((firstS (b.take n) : Int), ())) (firstS (b.take n)) rfl (fun i hi kn => step i hi kn _) ?_ 258 (by omega)).trans rfl
    intro kn
    have h0 := first_at (l := b.take n) (by rw [hlen]; exact hf)
    rw [tk _ hf] at h0
    unfold p_ref21_Missing_l5_F
    dsimp only
    rw [if_pos (by omega), if_pos (by omega), if_pos (by omega), Int.toNat_natCast, if_pos (by omega), if_pos (fun g => g h0)]
  · have e : firstS (b.take n) = n := by omega
    refine (iter_from (F := p_ref21_Missing_l5_F 258) (s := fun i => (b.length, (n : Int), (i : Int), c.1, c.2.1, c.2.2.1, c.2.2.2.1, c.2.2.2.2.1, c.2.2.2.2.2.1, c.2.2.2.2.2.2.1, c.2.2.2.2.2.2.2.1, (n : Int), c.2.2.2.2.2.2.2.2.2.1, c.2.2.2.2.2.2.2.2.2.2.1, c.2.2.2.2.2.2.2.2.2.2.2.1, b.length, b, ())) (y := .inr (c.1, c.2.1, c.2.2.1, c.2.2.2.1, c.2.2.2.2.1, c.2.2.2.2.2.1, c.2.2.2.2.2.2.1, c.2.2.2.2.2.2.2.1, (n : Int), c.2.2.2.2.2.2.2.2.2.1, c.2.2.2.2.2.2.2.2.2.2.1, c.2.2.2.2.2.2.2.2.2.2.2.1, ())) (firstS (b.take n)) rfl (fun i hi kn => step i hi kn _) ?_ 258 (by omega)).trans ?_
    · intro kn
      unfold p_ref21_Missing_l5_F
      dsimp only
      rw [if_neg (by omega)]
    · rw [e]
theorem at_Missing' {c : Ms} (h : msOk c) : g_ref21_Missing (c, ()) = some (missS c) := Spec_at (ks := p_ref21_Missing_ks) (rs := p_ref21_Missing_rs) (x := (c, ())) ⟨wf_ms.2 h, trivial⟩ trivial
theorem put_ok {c : Ms} (h : msOk c) : (putS c).1.length ≤ 300000 ∧ bytes (putS c).1 := by
  unfold putS
  split
  · rename_i hc
    exact form_len_bytes h (ok_fm (check_ok hc)) true
  · exact ⟨by simp, bytes_nil⟩
theorem q_law21_MsgPuts : ∀ x r, g_law21_MsgPuts x = some r → ∃ N, p_law21_MsgPuts N x = some r := by
  refine Spec_of (ks := p_law21_MsgPuts_ks) (rs := p_law21_MsgPuts_rs) fun x hw hq => ⟨0, ?_⟩
  obtain ⟨(c : Ms), u⟩ := x
  have hc : msOk c := wf_ms.1 hw.1
  show p_law21_MsgPuts 0 (c, u) = some true
  unfold p_law21_MsgPuts
  dsimp only
  rw [at_live, Option.bind_some, if_neg (by simp), ms_eta, at_bigB hc, Option.bind_some]
  by_cases bb : bigB c = true
  · rw [if_pos bb]; rfl
  have yp := put_ok hc
  have yw := words_ok hc
  rw [if_neg bb, at_Put hc, Option.bind_some, at_Put' hc, Option.bind_some, at_Equal ⟨by omega, yp.2⟩ ⟨by omega, yp.2⟩, Option.bind_some, if_pos (by simp), if_pos rfl, at_Words hc, Option.bind_some, at_Words' hc, Option.bind_some, at_Equal ⟨by omega, yw.2⟩ ⟨by omega, yw.2⟩, Option.bind_some, if_pos (by simp), at_Missing hc, Option.bind_some, at_Missing' hc, Option.bind_some]
  simp
end Go.Ax.TryP
/-! Printed by program (wires.py): the functions keep their signatures. -/
namespace Go.Ax.TryP
theorem s_ref01_Join : SigOk Go.Proofs.Try.prog 31 ⟨[.sls (.int .u8)], [.sl (.int .u8)], g_ref01_Join⟩ := p_ref01_Join_ok q_ref01_Join
theorem s_ref19_One : SigOk Go.Proofs.Try.prog 49 ⟨[.cat [.int .u64, .int .u64]], [.bool], g_ref19_One⟩ := p_ref19_One_ok q_ref19_One
theorem s_ref01_Bits : SigOk Go.Proofs.Try.prog 41 ⟨[.sl (.int .u8)], [.sl .bool], g_ref01_Bits⟩ := p_ref01_Bits_ok q_ref01_Bits
theorem s_ref01_Big : SigOk Go.Proofs.Try.prog 64 ⟨[.int .u64, .int .i64], [.sl (.int .u8)], g_ref01_Big⟩ := p_ref01_Big_ok q_ref01_Big
theorem s_ref21_text : SigOk Go.Proofs.Try.prog 65 ⟨[.sl (.int .u8)], [.sl (.int .u8)], g_ref21_text⟩ := p_ref21_text_ok s_ref01_Big s_ref01_Join q_ref21_text
theorem s_ref21_so : SigOk Go.Proofs.Try.prog 50 ⟨[.bool, .sl (.int .u8), .int .i64], [.bool], g_ref21_so⟩ := p_ref21_so_ok q_ref21_so
theorem s_ref21_has : SigOk Go.Proofs.Try.prog 38 ⟨[.int .i64, .int .i32], [.bool], g_ref21_has⟩ := p_ref21_has_ok q_ref21_has
theorem s_ref21_marked : SigOk Go.Proofs.Try.prog 51 ⟨[.int .i64, .sl (.int .u8)], [.bool], g_ref21_marked⟩ := p_ref21_marked_ok s_ref01_Bits q_ref21_marked
theorem s_ref21_Check : SigOk Go.Proofs.Try.prog 26 ⟨[.cat [.int .i64, .int .i64, .int .i64, .int .u32, .int .u32, .int .u64, .int .u64, .int .i64, .int .i64, .sl (.int .u8), .sl (.int .u8), .sl (.int .u8)]], [.int .i64], g_ref21_Check⟩ := p_ref21_Check_ok s_ref21_Name s_ref21_has s_ref19_One s_ref21_so s_ref21_marked q_ref21_Check
theorem s_ref21_form : SigOk Go.Proofs.Try.prog 35 ⟨[.cat [.int .i64, .int .i64, .int .i64, .int .u32, .int .u32, .int .u64, .int .u64, .int .i64, .int .i64, .sl (.int .u8), .sl (.int .u8), .sl (.int .u8)], .bool], [.sl (.int .u8)], g_ref21_form⟩ := p_ref21_form_ok s_ref01_Big s_ref01_Join s_ref21_text q_ref21_form
theorem s_ref21_Put : SigOk Go.Proofs.Try.prog 18 ⟨[.cat [.int .i64, .int .i64, .int .i64, .int .u32, .int .u32, .int .u64, .int .u64, .int .i64, .int .i64, .sl (.int .u8), .sl (.int .u8), .sl (.int .u8)]], [.sl (.int .u8), .int .i64], g_ref21_Put⟩ := p_ref21_Put_ok s_ref21_Check s_ref21_form q_ref21_Put
theorem s_ref21_Words : SigOk Go.Proofs.Try.prog 21 ⟨[.cat [.int .i64, .int .i64, .int .i64, .int .u32, .int .u32, .int .u64, .int .u64, .int .i64, .int .i64, .sl (.int .u8), .sl (.int .u8), .sl (.int .u8)]], [.sl (.int .u8)], g_ref21_Words⟩ := p_ref21_Words_ok s_ref21_Check s_ref21_has s_ref21_form s_ref01_Join q_ref21_Words
theorem s_ref21_Missing : SigOk Go.Proofs.Try.prog 23 ⟨[.cat [.int .i64, .int .i64, .int .i64, .int .u32, .int .u32, .int .u64, .int .u64, .int .i64, .int .i64, .sl (.int .u8), .sl (.int .u8), .sl (.int .u8)]], [.int .i64], g_ref21_Missing⟩ := p_ref21_Missing_ok s_ref21_Check s_ref01_Bits q_ref21_Missing
theorem s_law21_MsgPuts : SigOk Go.Proofs.Try.prog 4 ⟨[.cat [.int .i64, .int .i64, .int .i64, .int .u32, .int .u32, .int .u64, .int .u64, .int .i64, .int .i64, .sl (.int .u8), .sl (.int .u8), .sl (.int .u8)]], [.bool], g_law21_MsgPuts⟩ := p_law21_MsgPuts_ok s_law21_live s_law21_big s_msg_Put s_ref21_Put s_ref01_Equal s_msg_Words s_ref21_Words s_msg_Missing s_ref21_Missing q_law21_MsgPuts
end Go.Ax.TryP
