/- For every input the law KemChecks returns true. No conditions. -/
import Derived.Test.YtplhlghciccaiaaKmB
import Derived.Test.YtplhlghciccaiaaRows
namespace Go.Proofs.Ytplhlghciccaiaa
open Go.ChangeShapes Go.WideShapes Go.ChangeAt Go.RowKit Go.Ax
theorem Try.own : ownKnob Try.prog.godebug = none := by kernel_rfl
theorem Try.laidOut : laidOutB Try.prog = true := by kernel_rfl
theorem Try.samePr : Try.checked.prog = Try.prog := by kernel_rfl
set_option maxRecDepth 1000000 in
theorem kemChecks_lifted (os : Os) (started : os.Started) (H : Type) (enc : TypeId × Value → H) :
    ReturnsInHanded {} Try.checked os 3 .any (Rows.kemChecksSpec.pre6 enc Try.prog Try.f3 Rows.kemChecksRow.domain false) (Rows.kemChecksSpec.post enc Try.prog Try.f3 false true false false) := by
  refine returnsInHanded_of_change (C := Try.checked) Try.own started (by kernel_rfl) Try.func3
    (ChangeSpec.witness6 (enc := enc) (C := Try.checked) false ⟨#[], #[.agg ((List.replicate 32 (Value.int .u8 0)).toArray), .agg ((List.replicate 32 (Value.int .u8 0)).toArray), .int .u16 0, .int .u16 0], []⟩ 8 (by kernel_rfl) (by kernel_rfl) (by kernel_rfl) (by kernel_rfl)) ?_
  intro W base args ds gs before hval hW hcnd _
  exact law_calls_eq Try.samePr (f := 3) (fn := Try.f3) (s := Rows.kemChecksSpec) (tb := 4) (ks := [.xs (.int .u8) 32, .xs (.int .u8) 32, .int .u16, .int .u16]) Go.Ax.TryP.s_law14_KemChecks Try.laidOut (isTys_cons 22 [22, 23, 23] (by kernel_rfl) (isTy_xs Try.underlying22 Try.underlying5 (by kernel_rfl) (by kernel_rfl)) (by kernel_rfl) (of_decide_eq_true (by kernel_rfl)) (isTys_cons 22 [23, 23] rfl (isTy_xs Try.underlying22 Try.underlying5 (by kernel_rfl) (by kernel_rfl)) (by kernel_rfl) (of_decide_eq_true (by kernel_rfl)) (isTys_cons 23 [23] rfl (isTy_int Try.underlying23) (by kernel_rfl) (of_decide_eq_true (by kernel_rfl)) (isTys_cons 23 [] rfl (isTy_int Try.underlying23) (by kernel_rfl) (of_decide_eq_true (by kernel_rfl)) isTys_nil))))
    (fun x hw => Spec_at hw trivial) (fun ds h => match ds, h with | [d1, d2, d3, d4], _ => rfl) rfl (by kernel_rfl) Try.underlying4 hval hW
set_option maxRecDepth 1000000 in
theorem kemChecks_holds : Rows.KemChecksSaid :=
  OpenClaim.holds_of_wide 3 Try.f3 rfl rfl rfl rfl rfl rfl rfl ⟨rfl, rfl, rfl, rfl, rfl⟩ rfl rfl rfl rfl rfl (by kernel_rfl) Try.func3 (by kernel_rfl)
    (of_decide_eq_true (by kernel_rfl)) (by unfold Func.isWrapper; first | (rw [if_pos (by decide +kernel)]; kernel_rfl) | (rw [if_neg (by decide +kernel)]; exact ⟨rfl, rfl⟩))
    (fun os started H enc _ => kemChecks_lifted os started H enc)
end Go.Proofs.Ytplhlghciccaiaa
