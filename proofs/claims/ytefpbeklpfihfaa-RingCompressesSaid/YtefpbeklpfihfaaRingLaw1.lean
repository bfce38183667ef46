/- For every input the law RingCompresses of the ring returns true. No conditions. -/
import Derived.Test.YtefpbeklpfihfaaRingQ4
import Derived.Test.YtefpbeklpfihfaaRows
namespace Go.Proofs.Ytefpbeklpfihfaa
open Go.ChangeShapes Go.WideShapes Go.ChangeAt Go.RowKit Go.Ax

theorem Try.own : ownKnob Try.prog.godebug = none := by kernel_rfl
theorem Try.laidOut : laidOutB Try.prog = true := by kernel_rfl
theorem isPoly : Kd.isTy Try.prog 24 (.xs (.int .u16) 256) := ⟨22, Try.underlying24, Try.underlying22, by kernel_rfl, by kernel_rfl⟩
theorem readPoly : Try.prog.readableRec 24 = true ∧ 24 < Try.prog.types.size := ⟨by kernel_rfl, of_decide_eq_true (by kernel_rfl)⟩
theorem isInt : Kd.isTy Try.prog 3 (.int .i64) := Try.underlying3
theorem readInt : Try.prog.readableRec 3 = true ∧ 3 < Try.prog.types.size := ⟨by kernel_rfl, of_decide_eq_true (by kernel_rfl)⟩
def zeroPoly : Value := .agg ((List.replicate 256 (Value.int .u16 0)).toArray)

theorem ringCompresses_lifted (os : Os) (started : os.Started) (H : Type) (enc : TypeId × Value → H) :
    ReturnsInHanded {} Try.checked os 3 .any (Rows.ringCompressesSpec.pre6 enc Try.prog Try.f3 Rows.ringCompressesRow.domain false) (Rows.ringCompressesSpec.post enc Try.prog Try.f3 false true false false) := by
  refine returnsInHanded_of_change (C := Try.checked) Try.own started (by kernel_rfl) Try.func3
    (ChangeSpec.witness6 (enc := enc) (C := Try.checked) false ⟨#[], #[.int .i64 0, zeroPoly], []⟩ 8 (by kernel_rfl) (by kernel_rfl) (by kernel_rfl) (by kernel_rfl)) ?_
  intro W base args ds gs before hval hW hcnd _
  exact law_calls (tb := 4) (ks := [.int .i64, .xs (.int .u16) 256]) Go.Ax.TryP.s3 Try.laidOut ⟨3, [24], by kernel_rfl, isInt, readInt, 24, [], rfl, isPoly, readPoly, rfl⟩
    (fun x hw => Spec_at hw trivial) (fun ds h => match ds, h with | [d1, d2], _ => rfl) rfl (by kernel_rfl) Try.underlying4 hval hW

theorem ringCompresses_holds : Rows.RingCompressesSaid :=
  OpenClaim.holds_of_wide 3 Try.f3 rfl rfl rfl rfl rfl rfl rfl ⟨rfl, rfl, rfl, rfl, rfl⟩ rfl rfl rfl rfl rfl (by kernel_rfl) Try.func3 (by kernel_rfl)
    (of_decide_eq_true (by kernel_rfl)) (by unfold Func.isWrapper; first | (rw [if_pos (by decide +kernel)]; kernel_rfl) | (rw [if_neg (by decide +kernel)]; exact ⟨rfl, rfl⟩))
    (fun os started H enc _ => ringCompresses_lifted os started H enc)
#print axioms ringCompresses_holds
end Go.Proofs.Ytefpbeklpfihfaa
