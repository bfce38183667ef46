/- For every input the law DringSamples returns true. No conditions. -/
import Derived.Test.YtnokmgclkediiaaSampB
import Derived.Test.YtnokmgclkediiaaRows
namespace Go.Proofs.Ytnokmgclkediiaa
open Go.ChangeShapes Go.WideShapes Go.ChangeAt Go.RowKit Go.Ax

theorem Try.own : ownKnob Try.prog.godebug = none := by kernel_rfl
theorem Try.laidOut : laidOutB Try.prog = true := by kernel_rfl
theorem Try.samePr : Try.checked.prog = Try.prog := by kernel_rfl
set_option maxRecDepth 1000000 in
theorem dringSamples_lifted (os : Os) (started : os.Started) (H : Type) (enc : TypeId × Value → H) :
    ReturnsInHanded {} Try.checked os 12 .any (Rows.dringSamplesSpec.pre6 enc Try.prog Try.f12 Rows.dringSamplesRow.domain false) (Rows.dringSamplesSpec.post enc Try.prog Try.f12 false true false false) := by
  refine returnsInHanded_of_change (C := Try.checked) Try.own started (by kernel_rfl) Try.func12
    (ChangeSpec.witness6 (enc := enc) (C := Try.checked) false ⟨#[], #[.int .i64 0, .slice none 0 0], []⟩ 8 (by kernel_rfl) (by kernel_rfl) (by kernel_rfl) (by kernel_rfl)) ?_
  intro W base args ds gs before hval hW hcnd _
  exact law_calls_eq Try.samePr (f := 12) (fn := Try.f12) (s := Rows.dringSamplesSpec) (tb := 4) (ks := [.int .i64, .sl (.int .u8)]) Go.Ax.TryP.s_law15_DringSamples Try.laidOut (isTys_cons 3 [39] (by kernel_rfl) (isTy_int Try.underlying3) (by kernel_rfl) (of_decide_eq_true (by kernel_rfl)) (isTys_cons 39 [] rfl (isTy_sl Try.underlying39 Try.underlying5 (by kernel_rfl)) (by kernel_rfl) (of_decide_eq_true (by kernel_rfl)) isTys_nil))
    (fun x hw => Spec_at hw trivial) (fun ds h => match ds, h with | [d1, d2], _ => rfl) rfl (by kernel_rfl) Try.underlying4 hval hW

set_option maxRecDepth 1000000 in
theorem dringSamples_holds : Rows.DringSamplesSaid :=
  OpenClaim.holds_of_wide 12 Try.f12 rfl rfl rfl rfl rfl rfl rfl ⟨rfl, rfl, rfl, rfl, rfl⟩ rfl rfl rfl rfl rfl (by kernel_rfl) Try.func12 (by kernel_rfl)
    (of_decide_eq_true (by kernel_rfl)) (by unfold Func.isWrapper; first | (rw [if_pos (by decide +kernel)]; kernel_rfl) | (rw [if_neg (by decide +kernel)]; exact ⟨rfl, rfl⟩))
    (fun os started H enc _ => dringSamples_lifted os started H enc)
end Go.Proofs.Ytnokmgclkediiaa
