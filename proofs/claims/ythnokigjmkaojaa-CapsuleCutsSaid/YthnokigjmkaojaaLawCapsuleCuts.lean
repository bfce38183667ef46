/- For every input the law CapsuleCuts returns true. No conditions. -/
import Derived.Test.YthnokigjmkaojaaCapA
import Derived.Test.YthnokigjmkaojaaRows
namespace Go.Proofs.Ythnokigjmkaojaa
open Go.ChangeShapes Go.WideShapes Go.ChangeAt Go.RowKit Go.Ax

theorem Try.own : ownKnob Try.prog.godebug = none := by kernel_rfl
theorem Try.laidOut : laidOutB Try.prog = true := by kernel_rfl
theorem Try.samePr : Try.checked.prog = Try.prog := by kernel_rfl
set_option maxRecDepth 1000000 in
theorem capsuleCuts_lifted (os : Os) (started : os.Started) (H : Type) (enc : TypeId × Value → H) :
    ReturnsInHanded {} Try.checked os 3 .any (Rows.capsuleCutsSpec.pre6 enc Try.prog Try.f3 Rows.capsuleCutsRow.domain false) (Rows.capsuleCutsSpec.post enc Try.prog Try.f3 false true false false) := by
  refine returnsInHanded_of_change (C := Try.checked) Try.own started (by kernel_rfl) Try.func3
    (ChangeSpec.witness6 (enc := enc) (C := Try.checked) false ⟨#[], #[.slice none 0 0, .int .i64 0, .slice none 0 0], []⟩ 8 (by kernel_rfl) (by kernel_rfl) (by kernel_rfl) (by kernel_rfl)) ?_
  intro W base args ds gs before hval hW hcnd _
  exact law_calls_eq Try.samePr (f := 3) (fn := Try.f3) (s := Rows.capsuleCutsSpec) (tb := 4) (ks := [.sl (.int .u8), .int .i64, .sls (.int .u8)]) Go.Ax.TryP.s_law23_CapsuleCuts Try.laidOut (isTys_cons 22 [3, 23] (by kernel_rfl) (isTy_sl Try.underlying22 Try.underlying5 (by kernel_rfl)) (by kernel_rfl) (of_decide_eq_true (by kernel_rfl)) (isTys_cons 3 [23] rfl (isTy_int Try.underlying3) (by kernel_rfl) (of_decide_eq_true (by kernel_rfl)) (isTys_cons 23 [] rfl (⟨22, 5, Try.underlying23, Try.underlying22, Try.underlying5, by kernel_rfl, by kernel_rfl⟩ : Kd.isTy Try.prog 23 (.sls (.int .u8))) (by kernel_rfl) (of_decide_eq_true (by kernel_rfl)) isTys_nil)))
    (fun x hw => Spec_at hw trivial) (fun ds h => match ds, h with | [d1, d2, d3], _ => rfl) rfl (by kernel_rfl) Try.underlying4 hval hW

set_option maxRecDepth 1000000 in
theorem capsuleCuts_holds : Rows.CapsuleCutsSaid :=
  OpenClaim.holds_of_wide 3 Try.f3 rfl rfl rfl rfl rfl rfl rfl ⟨rfl, rfl, rfl, rfl, rfl⟩ rfl rfl rfl rfl rfl (by kernel_rfl) Try.func3 (by kernel_rfl)
    (of_decide_eq_true (by kernel_rfl)) (by unfold Func.isWrapper; first | (rw [if_pos (by decide +kernel)]; kernel_rfl) | (rw [if_neg (by decide +kernel)]; exact ⟨rfl, rfl⟩))
    (fun os started H enc _ => capsuleCuts_lifted os started H enc)
end Go.Proofs.Ythnokigjmkaojaa
