/- For every input the law DsaRight returns true. No conditions. -/
import Derived.Test.YtbcjbgjidddnaaaDsaH
import Derived.Test.YtbcjbgjidddnaaaRows
namespace Go.Proofs.Ytbcjbgjidddnaaa
open Go.ChangeShapes Go.WideShapes Go.ChangeAt Go.RowKit Go.Ax
theorem Try.own : ownKnob Try.prog.godebug = none := by kernel_rfl
theorem Try.laidOut : laidOutB Try.prog = true := by kernel_rfl
theorem Try.samePr : Try.checked.prog = Try.prog := by kernel_rfl
set_option maxRecDepth 1000000 in
theorem c1f (os : Os) (started : os.Started) (H : Type) (enc : TypeId × Value → H) :
  ReturnsInHanded {} Try.checked os 3 .any (Rows.dsaRightSpec.pre6 enc Try.prog Try.f3 Rows.dsaRightRow.domain false) (Rows.dsaRightSpec.post enc Try.prog Try.f3 false true false false) := by
 refine returnsInHanded_of_change (C := Try.checked) Try.own started (by kernel_rfl) Try.func3
  (ChangeSpec.witness6 (enc := enc) (C := Try.checked) false ⟨#[], #[.agg ((List.replicate 32 (Value.int .u8 0)).toArray), .agg ((List.replicate 32 (Value.int .u8 0)).toArray), .slice none 0 0, .slice none 0 0, .int .u8 0], []⟩ 8 (by kernel_rfl) (by kernel_rfl) (by kernel_rfl) (by kernel_rfl)) ?_
 intro W base args ds gs before hval hW hcnd _
 exact c6E Try.samePr (f := 3) (fn := Try.f3) (s := Rows.dsaRightSpec) (tb := 4) (ks := [.xs (.int .u8) 32, .xs (.int .u8) 32, .sl (.int .u8), .sl (.int .u8), .int .u8]) Go.Ax.TryP.s_law16_DsaRight Try.laidOut (a8T 22 [22, 23, 23, 5] (by kernel_rfl) (d2Z Try.underlying22 Try.underlying5 (by kernel_rfl) (by kernel_rfl)) (by kernel_rfl) (of_decide_eq_true (by kernel_rfl)) (a8T 22 [23, 23, 5] rfl (d2Z Try.underlying22 Try.underlying5 (by kernel_rfl) (by kernel_rfl)) (by kernel_rfl) (of_decide_eq_true (by kernel_rfl)) (a8T 23 [23, 5] rfl (d2Y Try.underlying23 Try.underlying5 (by kernel_rfl)) (by kernel_rfl) (of_decide_eq_true (by kernel_rfl)) (a8T 23 [5] rfl (d2Y Try.underlying23 Try.underlying5 (by kernel_rfl)) (by kernel_rfl) (of_decide_eq_true (by kernel_rfl)) (a8T 5 [] rfl (d44 Try.underlying5) (by kernel_rfl) (of_decide_eq_true (by kernel_rfl)) d20)))))
  (fun x hw => d9 hw trivial) (fun ds h => match ds, h with | [d1, d2, d3, d4, d5], _ => rfl) rfl (by kernel_rfl) Try.underlying4 hval hW
set_option maxRecDepth 1000000 in
theorem dsaRight_holds : Rows.DsaRightSaid :=
 OpenClaim.holds_of_wide 3 Try.f3 rfl rfl rfl rfl rfl rfl rfl ⟨rfl, rfl, rfl, rfl, rfl⟩ rfl rfl rfl rfl rfl (by kernel_rfl) Try.func3 (by kernel_rfl)
  (of_decide_eq_true (by kernel_rfl)) (by unfold Func.isWrapper; first | (rw [if_pos (by decide +kernel)]; kernel_rfl) | (rw [if_neg (by decide +kernel)]; exact ⟨rfl, rfl⟩))
  (fun os started H enc _ => c1f os started H enc)
end Go.Proofs.Ytbcjbgjidddnaaa
