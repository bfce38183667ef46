/- For every input the law MsgKinds returns true. No conditions. -/
import Derived.Test.YtdaompnhkfdlgaaMsgA
import Derived.Test.YtdaompnhkfdlgaaRows
namespace Go.Proofs.Ytdaompnhkfdlgaa
open Go.ChangeShapes Go.WideShapes Go.ChangeAt Go.RowKit Go.Ax

theorem Try.own : ownKnob Try.prog.godebug = none := by kernel_rfl
theorem Try.laidOut : laidOutB Try.prog = true := by kernel_rfl
theorem Try.samePr : Try.checked.prog = Try.prog := by kernel_rfl
set_option maxRecDepth 1000000 in
theorem msgKinds_lifted (os : Os) (started : os.Started) (H : Type) (enc : TypeId × Value → H) :
    ReturnsInHanded {} Try.checked os 3 .any (Rows.msgKindsSpec.pre6 enc Try.prog Try.f3 Rows.msgKindsRow.domain false) (Rows.msgKindsSpec.post enc Try.prog Try.f3 false true false false) := by
  refine returnsInHanded_of_change (C := Try.checked) Try.own started (by kernel_rfl) Try.func3
    (ChangeSpec.witness6 (enc := enc) (C := Try.checked) false ⟨#[], #[.int .i64 0], []⟩ 8 (by kernel_rfl) (by kernel_rfl) (by kernel_rfl) (by kernel_rfl)) ?_
  intro W base args ds gs before hval hW hcnd _
  exact law_calls_eq Try.samePr (f := 3) (fn := Try.f3) (s := Rows.msgKindsSpec) (tb := 4) (ks := [.int .i64]) Go.Ax.TryP.s_law21_MsgKinds Try.laidOut (isTys_cons 3 [] (by kernel_rfl) (isTy_int Try.underlying3) (by kernel_rfl) (of_decide_eq_true (by kernel_rfl)) isTys_nil)
    (fun x hw => Spec_at hw trivial) (fun ds h => match ds, h with | [d], _ => rfl) rfl (by kernel_rfl) Try.underlying4 hval hW

set_option maxRecDepth 1000000 in
theorem msgKinds_holds : Rows.MsgKindsSaid :=
  OpenClaim.holds_of_wide 3 Try.f3 rfl rfl rfl rfl rfl rfl rfl ⟨rfl, rfl, rfl, rfl, rfl⟩ rfl rfl rfl rfl rfl (by kernel_rfl) Try.func3 (by kernel_rfl)
    (of_decide_eq_true (by kernel_rfl)) (by unfold Func.isWrapper; first | (rw [if_pos (by decide +kernel)]; kernel_rfl) | (rw [if_neg (by decide +kernel)]; exact ⟨rfl, rfl⟩))
    (fun os started H enc _ => msgKinds_lifted os started H enc)
end Go.Proofs.Ytdaompnhkfdlgaa
