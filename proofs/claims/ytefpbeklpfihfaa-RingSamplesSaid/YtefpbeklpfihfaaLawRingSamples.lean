/- For every input the law RingSamples returns true. No conditions. -/
import Derived.Test.YtefpbeklpfihfaaKecC
import Derived.Test.YtefpbeklpfihfaaRows
namespace Go.Proofs.Ytefpbeklpfihfaa
open Go.ChangeShapes Go.WideShapes Go.ChangeAt Go.RowKit Go.Ax

theorem Try.own : ownKnob Try.prog.godebug = none := by kernel_rfl
theorem Try.laidOut : laidOutB Try.prog = true := by kernel_rfl
theorem Try.samePr : Try.checked.prog = Try.prog := by kernel_rfl
set_option maxRecDepth 1000000 in
theorem ringSamples_lifted (os : Os) (started : os.Started) (H : Type) (enc : TypeId × Value → H) :
    ReturnsInHanded {} Try.checked os 13 .any (Rows.ringSamplesSpec.pre6 enc Try.prog Try.f13 Rows.ringSamplesRow.domain false) (Rows.ringSamplesSpec.post enc Try.prog Try.f13 false true false false) := by
  refine returnsInHanded_of_change (C := Try.checked) Try.own started (by kernel_rfl) Try.func13
    (ChangeSpec.witness6 (enc := enc) (C := Try.checked) false ⟨#[], #[.slice none 0 0], []⟩ 8 (by kernel_rfl) (by kernel_rfl) (by kernel_rfl) (by kernel_rfl)) ?_
  intro W base args ds gs before hval hW hcnd _
  exact law_calls_eq Try.samePr (f := 13) (fn := Try.f13) (s := Rows.ringSamplesSpec) (tb := 4) (ks := [.sl (.int .u8)]) Go.Ax.TryP.s_law13_RingSamples Try.laidOut (isTys_cons 34 [] (by kernel_rfl) (isTy_sl Try.underlying34 Try.underlying5 (by kernel_rfl)) (by kernel_rfl) (of_decide_eq_true (by kernel_rfl)) isTys_nil)
    (fun x hw => Spec_at hw trivial) (fun ds h => match ds, h with | [d], _ => rfl) rfl (by kernel_rfl) Try.underlying4 hval hW

set_option maxRecDepth 1000000 in
theorem ringSamples_holds : Rows.RingSamplesSaid :=
  OpenClaim.holds_of_wide 13 Try.f13 rfl rfl rfl rfl rfl rfl rfl ⟨rfl, rfl, rfl, rfl, rfl⟩ rfl rfl rfl rfl rfl (by kernel_rfl) Try.func13 (by kernel_rfl)
    (of_decide_eq_true (by kernel_rfl)) (by unfold Func.isWrapper; first | (rw [if_pos (by decide +kernel)]; kernel_rfl) | (rw [if_neg (by decide +kernel)]; exact ⟨rfl, rfl⟩))
    (fun os started H enc _ => ringSamples_lifted os started H enc)
end Go.Proofs.Ytefpbeklpfihfaa
