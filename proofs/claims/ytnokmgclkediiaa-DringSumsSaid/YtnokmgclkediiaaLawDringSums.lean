/- For every input the law DringSums returns true. No conditions. -/
import Derived.Test.YtnokmgclkediiaaDringC
import Derived.Test.YtnokmgclkediiaaRows
namespace Go.Proofs.Ytnokmgclkediiaa
open Go.ChangeShapes Go.WideShapes Go.ChangeAt Go.RowKit Go.Ax

theorem Try.own : ownKnob Try.prog.godebug = none := by kernel_rfl
theorem Try.laidOut : laidOutB Try.prog = true := by kernel_rfl
theorem Try.samePr : Try.checked.prog = Try.prog := by kernel_rfl
set_option maxRecDepth 1000000 in
theorem dringSums_lifted (os : Os) (started : os.Started) (H : Type) (enc : TypeId × Value → H) :
    ReturnsInHanded {} Try.checked os 10 .any (Rows.dringSumsSpec.pre6 enc Try.prog Try.f10 Rows.dringSumsRow.domain false) (Rows.dringSumsSpec.post enc Try.prog Try.f10 false true false false) := by
  refine returnsInHanded_of_change (C := Try.checked) Try.own started (by kernel_rfl) Try.func10
    (ChangeSpec.witness6 (enc := enc) (C := Try.checked) false ⟨#[], #[.agg ((List.replicate 256 (Value.int .i32 0)).toArray), .agg ((List.replicate 256 (Value.int .i32 0)).toArray)], []⟩ 8 (by kernel_rfl) (by kernel_rfl) (by kernel_rfl) (by kernel_rfl)) ?_
  intro W base args ds gs before hval hW hcnd _
  exact law_calls_eq Try.samePr (f := 10) (fn := Try.f10) (s := Rows.dringSumsSpec) (tb := 4) (ks := [.xs (.int .i32) 256, .xs (.int .i32) 256]) Go.Ax.TryP.s_law15_DringSums Try.laidOut (isTys_cons 23 [23] (by kernel_rfl) (isTy_xs Try.underlying23 Try.underlying21 (by kernel_rfl) (by kernel_rfl)) (by kernel_rfl) (of_decide_eq_true (by kernel_rfl)) (isTys_cons 23 [] rfl (isTy_xs Try.underlying23 Try.underlying21 (by kernel_rfl) (by kernel_rfl)) (by kernel_rfl) (of_decide_eq_true (by kernel_rfl)) isTys_nil))
    (fun x hw => Spec_at hw trivial) (fun ds h => match ds, h with | [d1, d2], _ => rfl) rfl (by kernel_rfl) Try.underlying4 hval hW

set_option maxRecDepth 1000000 in
theorem dringSums_holds : Rows.DringSumsSaid :=
  OpenClaim.holds_of_wide 10 Try.f10 rfl rfl rfl rfl rfl rfl rfl ⟨rfl, rfl, rfl, rfl, rfl⟩ rfl rfl rfl rfl rfl (by kernel_rfl) Try.func10 (by kernel_rfl)
    (of_decide_eq_true (by kernel_rfl)) (by unfold Func.isWrapper; first | (rw [if_pos (by decide +kernel)]; kernel_rfl) | (rw [if_neg (by decide +kernel)]; exact ⟨rfl, rfl⟩))
    (fun os started H enc _ => dringSums_lifted os started H enc)
end Go.Proofs.Ytnokmgclkediiaa
