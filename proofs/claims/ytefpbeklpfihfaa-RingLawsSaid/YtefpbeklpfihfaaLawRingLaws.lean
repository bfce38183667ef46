/- For every input the law RingLaws returns true. No conditions. -/
import Derived.Test.YtefpbeklpfihfaaRingQ10
import Derived.Test.YtefpbeklpfihfaaRows
namespace Go.Proofs.Ytefpbeklpfihfaa
open Go.ChangeShapes Go.WideShapes Go.ChangeAt Go.RowKit Go.Ax

theorem Try.own : ownKnob Try.prog.godebug = none := by kernel_rfl
theorem Try.laidOut : laidOutB Try.prog = true := by kernel_rfl
theorem ringLaws_lifted (os : Os) (started : os.Started) (H : Type) (enc : TypeId × Value → H) :
    ReturnsInHanded {} Try.checked os 11 .any (Rows.ringLawsSpec.pre6 enc Try.prog Try.f11 Rows.ringLawsRow.domain false) (Rows.ringLawsSpec.post enc Try.prog Try.f11 false true false false) := by
  refine returnsInHanded_of_change (C := Try.checked) Try.own started (by kernel_rfl) Try.func11
    (ChangeSpec.witness6 (enc := enc) (C := Try.checked) false ⟨#[], #[.agg ((List.replicate 256 (Value.int .u16 0)).toArray), .agg ((List.replicate 256 (Value.int .u16 0)).toArray), .agg ((List.replicate 256 (Value.int .u16 0)).toArray)], []⟩ 8 (by kernel_rfl) (by kernel_rfl) (by kernel_rfl) (by kernel_rfl)) ?_
  intro W base args ds gs before hval hW hcnd _
  exact law_calls (tb := 4) (ks := [.xs (.int .u16) 256, .xs (.int .u16) 256, .xs (.int .u16) 256]) Go.Ax.TryP.s11 Try.laidOut ⟨24, [24, 24], by kernel_rfl, ⟨22, Try.underlying24, Try.underlying22, by kernel_rfl, by kernel_rfl⟩, ⟨by kernel_rfl, of_decide_eq_true (by kernel_rfl)⟩, ⟨24, [24], rfl, ⟨22, Try.underlying24, Try.underlying22, by kernel_rfl, by kernel_rfl⟩, ⟨by kernel_rfl, of_decide_eq_true (by kernel_rfl)⟩, ⟨24, [], rfl, ⟨22, Try.underlying24, Try.underlying22, by kernel_rfl, by kernel_rfl⟩, ⟨by kernel_rfl, of_decide_eq_true (by kernel_rfl)⟩, rfl⟩⟩⟩
    (fun x hw => Spec_at hw trivial) (fun ds h => match ds, h with | [d1, d2, d3], _ => rfl) rfl (by kernel_rfl) Try.underlying4 hval hW

theorem ringLaws_holds : Rows.RingLawsSaid :=
  OpenClaim.holds_of_wide 11 Try.f11 rfl rfl rfl rfl rfl rfl rfl ⟨rfl, rfl, rfl, rfl, rfl⟩ rfl rfl rfl rfl rfl (by kernel_rfl) Try.func11 (by kernel_rfl)
    (of_decide_eq_true (by kernel_rfl)) (by unfold Func.isWrapper; first | (rw [if_pos (by decide +kernel)]; kernel_rfl) | (rw [if_neg (by decide +kernel)]; exact ⟨rfl, rfl⟩))
    (fun os started H enc _ => ringLaws_lifted os started H enc)
end Go.Proofs.Ytefpbeklpfihfaa
