/- For every input the law DsaStrict returns true. No conditions. -/
import Derived.Test.YtbcjbgjidddnaaaDsaG
import Derived.Test.YtbcjbgjidddnaaaRows
namespace Go.Proofs.Ytbcjbgjidddnaaa
open Go.ChangeShapes Go.WideShapes Go.ChangeAt Go.RowKit Go.Ax
theorem Try.own : ownKnob Try.prog.godebug = none := by kernel_rfl
theorem Try.laidOut : laidOutB Try.prog = true := by kernel_rfl
theorem Try.samePr : Try.checked.prog = Try.prog := by kernel_rfl
set_option maxRecDepth 1000000 in
theorem b87 (os : Os) (started : os.Started) (H : Type) (enc : TypeId × Value → H) :
  ReturnsInHanded {} Try.checked os 4 .any (Rows.dsaStrictSpec.pre6 enc Try.prog Try.f4 Rows.dsaStrictRow.domain false) (Rows.dsaStrictSpec.post enc Try.prog Try.f4 false true false false) := by
 refine returnsInHanded_of_change (C := Try.checked) Try.own started (by kernel_rfl) Try.func4
  (ChangeSpec.witness6 (enc := enc) (C := Try.checked) false ⟨#[], #[.agg ((List.replicate 32 (Value.int .u8 0)).toArray), .agg ((List.replicate 32 (Value.int .u8 0)).toArray), .slice none 0 0, .int .u8 0, .int .u8 0], []⟩ 8 (by kernel_rfl) (by kernel_rfl) (by kernel_rfl) (by kernel_rfl)) ?_
 intro W base args ds gs before hval hW hcnd _
 exact c5S Try.samePr (f := 4) (fn := Try.f4) (s := Rows.dsaStrictSpec) (tb := 4) (ks := [.xs (.int .u8) 32, .xs (.int .u8) 32, .sl (.int .u8), .int .u8, .int .u8]) Go.Ax.TryP.s_law16_DsaStrict Try.laidOut (a8x 22 [22, 23, 5, 5] (by kernel_rfl) (d16 Try.underlying22 Try.underlying5 (by kernel_rfl) (by kernel_rfl)) (by kernel_rfl) (of_decide_eq_true (by kernel_rfl)) (a8x 22 [23, 5, 5] rfl (d16 Try.underlying22 Try.underlying5 (by kernel_rfl) (by kernel_rfl)) (by kernel_rfl) (of_decide_eq_true (by kernel_rfl)) (a8x 23 [5, 5] rfl (d6d Try.underlying23 Try.underlying5 (by kernel_rfl)) (by kernel_rfl) (of_decide_eq_true (by kernel_rfl)) (a8x 5 [5] rfl (c83 Try.underlying5) (by kernel_rfl) (of_decide_eq_true (by kernel_rfl)) (a8x 5 [] rfl (c83 Try.underlying5) (by kernel_rfl) (of_decide_eq_true (by kernel_rfl)) d17)))))
  (fun x hw => d8 hw trivial) (fun ds h => match ds, h with | [d1, d2, d3, d4, d5], _ => rfl) rfl (by kernel_rfl) Try.underlying4 hval hW
set_option maxRecDepth 1000000 in
theorem dsaStrict_holds : Rows.DsaStrictSaid :=
 OpenClaim.holds_of_wide 4 Try.f4 rfl rfl rfl rfl rfl rfl rfl ⟨rfl, rfl, rfl, rfl, rfl⟩ rfl rfl rfl rfl rfl (by kernel_rfl) Try.func4 (by kernel_rfl)
  (of_decide_eq_true (by kernel_rfl)) (by unfold Func.isWrapper; first | (rw [if_pos (by decide +kernel)]; kernel_rfl) | (rw [if_neg (by decide +kernel)]; exact ⟨rfl, rfl⟩))
  (fun os started H enc _ => b87 os started H enc)
end Go.Proofs.Ytbcjbgjidddnaaa
