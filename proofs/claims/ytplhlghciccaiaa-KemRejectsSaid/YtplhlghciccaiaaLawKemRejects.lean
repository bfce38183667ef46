/- For every input the law KemRejects returns true. No conditions. -/
import Derived.Test.YtplhlghciccaiaaKmB
import Derived.Test.YtplhlghciccaiaaRows
namespace Go.Proofs.Ytplhlghciccaiaa
open Go.ChangeShapes Go.WideShapes Go.ChangeAt Go.RowKit Go.Ax
theorem Try.own : ownKnob Try.prog.godebug = none := by kernel_rfl
theorem Try.laidOut : laidOutB Try.prog = true := by kernel_rfl
theorem Try.samePr : Try.checked.prog = Try.prog := by kernel_rfl
set_option maxRecDepth 1000000 in
theorem kemRejects_lifted (os : Os) (started : os.Started) (H : Type) (enc : TypeId × Value → H) :
    ReturnsInHanded {} Try.checked os 5 .any (Rows.kemRejectsSpec.pre6 enc Try.prog Try.f5 Rows.kemRejectsRow.domain false) (Rows.kemRejectsSpec.post enc Try.prog Try.f5 false true false false) := by
  refine returnsInHanded_of_change (C := Try.checked) Try.own started (by kernel_rfl) Try.func5
    (ChangeSpec.witness6 (enc := enc) (C := Try.checked) false ⟨#[], #[.agg ((List.replicate 32 (Value.int .u8 0)).toArray), .agg ((List.replicate 32 (Value.int .u8 0)).toArray), .slice none 0 0], []⟩ 8 (by kernel_rfl) (by kernel_rfl) (by kernel_rfl) (by kernel_rfl)) ?_
  intro W base args ds gs before hval hW hcnd _
  exact law_calls_eq Try.samePr (f := 5) (fn := Try.f5) (s := Rows.kemRejectsSpec) (tb := 4) (ks := [.xs (.int .u8) 32, .xs (.int .u8) 32, .sl (.int .u8)]) Go.Ax.TryP.s_law14_KemRejects Try.laidOut (isTys_cons 22 [22, 24] (by kernel_rfl) (isTy_xs Try.underlying22 Try.underlying5 (by kernel_rfl) (by kernel_rfl)) (by kernel_rfl) (of_decide_eq_true (by kernel_rfl)) (isTys_cons 22 [24] rfl (isTy_xs Try.underlying22 Try.underlying5 (by kernel_rfl) (by kernel_rfl)) (by kernel_rfl) (of_decide_eq_true (by kernel_rfl)) (isTys_cons 24 [] rfl (isTy_sl Try.underlying24 Try.underlying5 (by kernel_rfl)) (by kernel_rfl) (of_decide_eq_true (by kernel_rfl)) isTys_nil)))
    (fun x hw => Spec_at hw trivial) (fun ds h => match ds, h with | [d1, d2, d3], _ => rfl) rfl (by kernel_rfl) Try.underlying4 hval hW
set_option maxRecDepth 1000000 in
theorem kemRejects_holds : Rows.KemRejectsSaid :=
  OpenClaim.holds_of_wide 5 Try.f5 rfl rfl rfl rfl rfl rfl rfl ⟨rfl, rfl, rfl, rfl, rfl⟩ rfl rfl rfl rfl rfl (by kernel_rfl) Try.func5 (by kernel_rfl)
    (of_decide_eq_true (by kernel_rfl)) (by unfold Func.isWrapper; first | (rw [if_pos (by decide +kernel)]; kernel_rfl) | (rw [if_neg (by decide +kernel)]; exact ⟨rfl, rfl⟩))
    (fun os started H enc _ => kemRejects_lifted os started H enc)
end Go.Proofs.Ytplhlghciccaiaa
