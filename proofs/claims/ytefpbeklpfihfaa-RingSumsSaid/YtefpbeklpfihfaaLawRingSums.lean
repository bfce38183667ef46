/- For every input the law RingSums returns true. No conditions. -/
import Derived.Test.YtefpbeklpfihfaaRingQ13
import Derived.Test.YtefpbeklpfihfaaRows
namespace Go.Proofs.Ytefpbeklpfihfaa
open Go.ChangeShapes Go.WideShapes Go.ChangeAt Go.RowKit Go.Ax

theorem Try.own : ownKnob Try.prog.godebug = none := by kernel_rfl
theorem Try.laidOut : laidOutB Try.prog = true := by kernel_rfl
theorem ringSums_lifted (os : Os) (started : os.Started) (H : Type) (enc : TypeId × Value → H) :
    ReturnsInHanded {} Try.checked os 10 .any (Rows.ringSumsSpec.pre6 enc Try.prog Try.f10 Rows.ringSumsRow.domain false) (Rows.ringSumsSpec.post enc Try.prog Try.f10 false true false false) := by
  refine returnsInHanded_of_change (C := Try.checked) Try.own started (by kernel_rfl) Try.func10
    (ChangeSpec.witness6 (enc := enc) (C := Try.checked) false ⟨#[], #[.agg ((List.replicate 256 (Value.int .u16 0)).toArray), .agg ((List.replicate 256 (Value.int .u16 0)).toArray)], []⟩ 8 (by kernel_rfl) (by kernel_rfl) (by kernel_rfl) (by kernel_rfl)) ?_
  intro W base args ds gs before hval hW hcnd _
  exact law_calls (tb := 4) (ks := [.xs (.int .u16) 256, .xs (.int .u16) 256]) Go.Ax.TryP.s10 Try.laidOut ⟨24, [24], by kernel_rfl, ⟨22, Try.underlying24, Try.underlying22, by kernel_rfl, by kernel_rfl⟩, ⟨by kernel_rfl, of_decide_eq_true (by kernel_rfl)⟩, ⟨24, [], rfl, ⟨22, Try.underlying24, Try.underlying22, by kernel_rfl, by kernel_rfl⟩, ⟨by kernel_rfl, of_decide_eq_true (by kernel_rfl)⟩, rfl⟩⟩
    (fun x hw => Spec_at hw trivial) (fun ds h => match ds, h with | [d1, d2], _ => rfl) rfl (by kernel_rfl) Try.underlying4 hval hW

theorem ringSums_holds : Rows.RingSumsSaid :=
  OpenClaim.holds_of_wide 10 Try.f10 rfl rfl rfl rfl rfl rfl rfl ⟨rfl, rfl, rfl, rfl, rfl⟩ rfl rfl rfl rfl rfl (by kernel_rfl) Try.func10 (by kernel_rfl)
    (of_decide_eq_true (by kernel_rfl)) (by unfold Func.isWrapper; first | (rw [if_pos (by decide +kernel)]; kernel_rfl) | (rw [if_neg (by decide +kernel)]; exact ⟨rfl, rfl⟩))
    (fun os started H enc _ => ringSums_lifted os started H enc)
end Go.Proofs.Ytefpbeklpfihfaa
