/- For every input the law DringNtts returns true. No conditions. -/
import Derived.Test.YtnokmgclkediiaaDnB
import Derived.Test.YtnokmgclkediiaaRows
namespace Go.Proofs.Ytnokmgclkediiaa
open Go.ChangeShapes Go.WideShapes Go.ChangeAt Go.RowKit Go.Ax

theorem Try.own : ownKnob Try.prog.godebug = none := by kernel_rfl
theorem Try.laidOut : laidOutB Try.prog = true := by kernel_rfl
theorem Try.samePr : Try.checked.prog = Try.prog := by kernel_rfl
set_option maxRecDepth 1000000 in
theorem dringNtts_lifted (os : Os) (started : os.Started) (H : Type) (enc : TypeId × Value → H) :
    ReturnsInHanded {} Try.checked os 8 .any (Rows.dringNttsSpec.pre6 enc Try.prog Try.f8 Rows.dringNttsRow.domain false) (Rows.dringNttsSpec.post enc Try.prog Try.f8 false true false false) := by
  refine returnsInHanded_of_change (C := Try.checked) Try.own started (by kernel_rfl) Try.func8
    (ChangeSpec.witness6 (enc := enc) (C := Try.checked) false ⟨#[], #[.agg ((List.replicate 256 (Value.int .i32 0)).toArray), .agg ((List.replicate 256 (Value.int .i32 0)).toArray)], []⟩ 8 (by kernel_rfl) (by kernel_rfl) (by kernel_rfl) (by kernel_rfl)) ?_
  intro W base args ds gs before hval hW hcnd _
  exact law_calls_eq Try.samePr (f := 8) (fn := Try.f8) (s := Rows.dringNttsSpec) (tb := 4) (ks := [.xs (.int .i32) 256, .xs (.int .i32) 256]) Go.Ax.TryP.s_law15_DringNtts Try.laidOut (isTys_cons 23 [23] (by kernel_rfl) (isTy_xs Try.underlying23 Try.underlying21 (by kernel_rfl) (by kernel_rfl)) (by kernel_rfl) (of_decide_eq_true (by kernel_rfl)) (isTys_cons 23 [] rfl (isTy_xs Try.underlying23 Try.underlying21 (by kernel_rfl) (by kernel_rfl)) (by kernel_rfl) (of_decide_eq_true (by kernel_rfl)) isTys_nil))
    (fun x hw => Spec_at hw trivial) (fun ds h => match ds, h with | [d1, d2], _ => rfl) rfl (by kernel_rfl) Try.underlying4 hval hW

set_option maxRecDepth 1000000 in
theorem dringNtts_holds : Rows.DringNttsSaid :=
  OpenClaim.holds_of_wide 8 Try.f8 rfl rfl rfl rfl rfl rfl rfl ⟨rfl, rfl, rfl, rfl, rfl⟩ rfl rfl rfl rfl rfl (by kernel_rfl) Try.func8 (by kernel_rfl)
    (of_decide_eq_true (by kernel_rfl)) (by unfold Func.isWrapper; first | (rw [if_pos (by decide +kernel)]; kernel_rfl) | (rw [if_neg (by decide +kernel)]; exact ⟨rfl, rfl⟩))
    (fun os started H enc _ => dringNtts_lifted os started H enc)
end Go.Proofs.Ytnokmgclkediiaa
