/- For every input the law RingNtts returns true. No conditions. -/
import Derived.Test.YtefpbeklpfihfaaRingD
import Derived.Test.YtefpbeklpfihfaaRows
namespace Go.Proofs.Ytefpbeklpfihfaa
open Go.ChangeShapes Go.WideShapes Go.ChangeAt Go.RowKit Go.Ax

theorem Try.own : ownKnob Try.prog.godebug = none := by kernel_rfl
theorem Try.laidOut : laidOutB Try.prog = true := by kernel_rfl
theorem Try.samePr : Try.checked.prog = Try.prog := by kernel_rfl
set_option maxRecDepth 1000000 in
theorem ringNtts_lifted (os : Os) (started : os.Started) (H : Type) (enc : TypeId × Value → H) :
    ReturnsInHanded {} Try.checked os 7 .any (Rows.ringNttsSpec.pre6 enc Try.prog Try.f7 Rows.ringNttsRow.domain false) (Rows.ringNttsSpec.post enc Try.prog Try.f7 false true false false) := by
  refine returnsInHanded_of_change (C := Try.checked) Try.own started (by kernel_rfl) Try.func7
    (ChangeSpec.witness6 (enc := enc) (C := Try.checked) false ⟨#[], #[.agg ((List.replicate 256 (Value.int .u16 0)).toArray)], []⟩ 8 (by kernel_rfl) (by kernel_rfl) (by kernel_rfl) (by kernel_rfl)) ?_
  intro W base args ds gs before hval hW hcnd _
  exact law_calls_eq Try.samePr (f := 7) (fn := Try.f7) (s := Rows.ringNttsSpec) (tb := 4) (ks := [.xs (.int .u16) 256]) Go.Ax.TryP.s_law13_RingNtts Try.laidOut (isTys_cons 24 [] (by kernel_rfl) (isTy_xs Try.underlying24 Try.underlying22 (by kernel_rfl) (by kernel_rfl)) (by kernel_rfl) (of_decide_eq_true (by kernel_rfl)) isTys_nil)
    (fun x hw => Spec_at hw trivial) (fun ds h => match ds, h with | [d], _ => rfl) rfl (by kernel_rfl) Try.underlying4 hval hW

set_option maxRecDepth 1000000 in
theorem ringNtts_holds : Rows.RingNttsSaid :=
  OpenClaim.holds_of_wide 7 Try.f7 rfl rfl rfl rfl rfl rfl rfl ⟨rfl, rfl, rfl, rfl, rfl⟩ rfl rfl rfl rfl rfl (by kernel_rfl) Try.func7 (by kernel_rfl)
    (of_decide_eq_true (by kernel_rfl)) (by unfold Func.isWrapper; first | (rw [if_pos (by decide +kernel)]; kernel_rfl) | (rw [if_neg (by decide +kernel)]; exact ⟨rfl, rfl⟩))
    (fun os started H enc _ => ringNtts_lifted os started H enc)
end Go.Proofs.Ytefpbeklpfihfaa
