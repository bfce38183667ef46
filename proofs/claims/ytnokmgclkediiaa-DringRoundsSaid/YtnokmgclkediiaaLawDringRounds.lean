/- For every input the law DringRounds returns true. No conditions. -/
import Derived.Test.YtnokmgclkediiaaDringW1
import Derived.Test.YtnokmgclkediiaaRows
namespace Go.Proofs.Ytnokmgclkediiaa
open Go.ChangeShapes Go.WideShapes Go.ChangeAt Go.RowKit Go.Ax

theorem Try.own : ownKnob Try.prog.godebug = none := by kernel_rfl
theorem Try.laidOut : laidOutB Try.prog = true := by kernel_rfl
theorem Try.samePr : Try.checked.prog = Try.prog := by kernel_rfl
set_option maxRecDepth 1000000 in
theorem dringRounds_lifted (os : Os) (started : os.Started) (H : Type) (enc : TypeId × Value → H) :
    ReturnsInHanded {} Try.checked os 3 .any (Rows.dringRoundsSpec.pre6 enc Try.prog Try.f3 Rows.dringRoundsRow.domain false) (Rows.dringRoundsSpec.post enc Try.prog Try.f3 false true false false) := by
  refine returnsInHanded_of_change (C := Try.checked) Try.own started (by kernel_rfl) Try.func3
    (ChangeSpec.witness6 (enc := enc) (C := Try.checked) false ⟨#[], #[.agg ((List.replicate 256 (Value.int .i32 0)).toArray)], []⟩ 8 (by kernel_rfl) (by kernel_rfl) (by kernel_rfl) (by kernel_rfl)) ?_
  intro W base args ds gs before hval hW hcnd _
  exact law_calls_eq Try.samePr (f := 3) (fn := Try.f3) (s := Rows.dringRoundsSpec) (tb := 4) (ks := [.xs (.int .i32) 256]) Go.Ax.TryP.s_law15_DringRounds Try.laidOut (isTys_cons 23 [] (by kernel_rfl) (isTy_xs Try.underlying23 Try.underlying21 (by kernel_rfl) (by kernel_rfl)) (by kernel_rfl) (of_decide_eq_true (by kernel_rfl)) isTys_nil)
    (fun x hw => Spec_at hw trivial) (fun ds h => match ds, h with | [d], _ => rfl) rfl (by kernel_rfl) Try.underlying4 hval hW

set_option maxRecDepth 1000000 in
theorem dringRounds_holds : Rows.DringRoundsSaid :=
  OpenClaim.holds_of_wide 3 Try.f3 rfl rfl rfl rfl rfl rfl rfl ⟨rfl, rfl, rfl, rfl, rfl⟩ rfl rfl rfl rfl rfl (by kernel_rfl) Try.func3 (by kernel_rfl)
    (of_decide_eq_true (by kernel_rfl)) (by unfold Func.isWrapper; first | (rw [if_pos (by decide +kernel)]; kernel_rfl) | (rw [if_neg (by decide +kernel)]; exact ⟨rfl, rfl⟩))
    (fun os started H enc _ => dringRounds_lifted os started H enc)
end Go.Proofs.Ytnokmgclkediiaa
