/- For every input the law RingBack returns true. No conditions. -/
import Derived.Test.YtefpbeklpfihfaaRingF
import Derived.Test.YtefpbeklpfihfaaRows
namespace Go.Proofs.Ytefpbeklpfihfaa
open Go.ChangeShapes Go.WideShapes Go.ChangeAt Go.RowKit Go.Ax

theorem Try.own : ownKnob Try.prog.godebug = none := by kernel_rfl
theorem Try.laidOut : laidOutB Try.prog = true := by kernel_rfl
theorem Try.samePr : Try.checked.prog = Try.prog := by kernel_rfl
set_option maxRecDepth 1000000 in
theorem ringBack_lifted (os : Os) (started : os.Started) (H : Type) (enc : TypeId × Value → H) :
    ReturnsInHanded {} Try.checked os 12 .any (Rows.ringBackSpec.pre6 enc Try.prog Try.f12 Rows.ringBackRow.domain false) (Rows.ringBackSpec.post enc Try.prog Try.f12 false true false false) := by
  refine returnsInHanded_of_change (C := Try.checked) Try.own started (by kernel_rfl) Try.func12
    (ChangeSpec.witness6 (enc := enc) (C := Try.checked) false ⟨#[], #[.int .i64 0, .agg ((List.replicate 256 (Value.int .u16 0)).toArray)], []⟩ 8 (by kernel_rfl) (by kernel_rfl) (by kernel_rfl) (by kernel_rfl)) ?_
  intro W base args ds gs before hval hW hcnd _
  exact law_calls_eq Try.samePr (f := 12) (fn := Try.f12) (s := Rows.ringBackSpec) (tb := 4) (ks := [.int .i64, .xs (.int .u16) 256]) Go.Ax.TryP.s_law13_RingBack Try.laidOut (isTys_cons 3 [24] (by kernel_rfl) (isTy_int Try.underlying3) (by kernel_rfl) (of_decide_eq_true (by kernel_rfl)) (isTys_cons 24 [] rfl (isTy_xs Try.underlying24 Try.underlying22 (by kernel_rfl) (by kernel_rfl)) (by kernel_rfl) (of_decide_eq_true (by kernel_rfl)) isTys_nil))
    (fun x hw => Spec_at hw trivial) (fun ds h => match ds, h with | [d1, d2], _ => rfl) rfl (by kernel_rfl) Try.underlying4 hval hW

set_option maxRecDepth 1000000 in
theorem ringBack_holds : Rows.RingBackSaid :=
  OpenClaim.holds_of_wide 12 Try.f12 rfl rfl rfl rfl rfl rfl rfl ⟨rfl, rfl, rfl, rfl, rfl⟩ rfl rfl rfl rfl rfl (by kernel_rfl) Try.func12 (by kernel_rfl)
    (of_decide_eq_true (by kernel_rfl)) (by unfold Func.isWrapper; first | (rw [if_pos (by decide +kernel)]; kernel_rfl) | (rw [if_neg (by decide +kernel)]; exact ⟨rfl, rfl⟩))
    (fun os started H enc _ => ringBack_lifted os started H enc)
end Go.Proofs.Ytefpbeklpfihfaa
