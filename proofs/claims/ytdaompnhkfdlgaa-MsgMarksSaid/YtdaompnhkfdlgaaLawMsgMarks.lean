/- For every input the law MsgMarks returns true. No conditions. -/
import Derived.Test.YtdaompnhkfdlgaaMsgB
import Derived.Test.YtdaompnhkfdlgaaRows
namespace Go.Proofs.Ytdaompnhkfdlgaa
open Go.ChangeShapes Go.WideShapes Go.ChangeAt Go.RowKit Go.Ax

theorem Try.own : ownKnob Try.prog.godebug = none := by kernel_rfl
theorem Try.laidOut : laidOutB Try.prog = true := by kernel_rfl
theorem Try.samePr : Try.checked.prog = Try.prog := by kernel_rfl
set_option maxRecDepth 1000000 in
theorem msgMarks_lifted (os : Os) (started : os.Started) (H : Type) (enc : TypeId × Value → H) :
    ReturnsInHanded {} Try.checked os 6 .any (Rows.msgMarksSpec.pre6 enc Try.prog Try.f6 Rows.msgMarksRow.domain false) (Rows.msgMarksSpec.post enc Try.prog Try.f6 false true false false) := by
  refine returnsInHanded_of_change (C := Try.checked) Try.own started (by kernel_rfl) Try.func6
    (ChangeSpec.witness6 (enc := enc) (C := Try.checked) false ⟨#[], #[.slice none 0 0, .int .i64 0, .int .i64 0], []⟩ 8 (by kernel_rfl) (by kernel_rfl) (by kernel_rfl) (by kernel_rfl)) ?_
  intro W base args ds gs before hval hW hcnd _
  exact law_calls_eq Try.samePr (f := 6) (fn := Try.f6) (s := Rows.msgMarksSpec) (tb := 4) (ks := [.sl .bool, .int .i64, .int .i64]) Go.Ax.TryP.s_law21_MsgMarks Try.laidOut (isTys_cons 43 [3, 3] (by kernel_rfl) (⟨4, Try.underlying43, Try.underlying4, by kernel_rfl⟩ : Kd.isTy Try.prog 43 (.sl .bool)) (by kernel_rfl) (of_decide_eq_true (by kernel_rfl)) (isTys_cons 3 [3] rfl (isTy_int Try.underlying3) (by kernel_rfl) (of_decide_eq_true (by kernel_rfl)) (isTys_cons 3 [] rfl (isTy_int Try.underlying3) (by kernel_rfl) (of_decide_eq_true (by kernel_rfl)) isTys_nil)))
    (fun x hw => Spec_at hw trivial) (fun ds h => match ds, h with | [d1, d2, d3], _ => rfl) rfl (by kernel_rfl) Try.underlying4 hval hW

set_option maxRecDepth 1000000 in
theorem msgMarks_holds : Rows.MsgMarksSaid :=
  OpenClaim.holds_of_wide 6 Try.f6 rfl rfl rfl rfl rfl rfl rfl ⟨rfl, rfl, rfl, rfl, rfl⟩ rfl rfl rfl rfl rfl (by kernel_rfl) Try.func6 (by kernel_rfl)
    (of_decide_eq_true (by kernel_rfl)) (by unfold Func.isWrapper; first | (rw [if_pos (by decide +kernel)]; kernel_rfl) | (rw [if_neg (by decide +kernel)]; exact ⟨rfl, rfl⟩))
    (fun os started H enc _ => msgMarks_lifted os started H enc)
end Go.Proofs.Ytdaompnhkfdlgaa
