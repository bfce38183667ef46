/- For every input the law DsaTries returns true. No conditions. -/
import Derived.Test.YtbcjbgjidddnaaaDsaF
import Derived.Test.YtbcjbgjidddnaaaRows
namespace Go.Proofs.Ytbcjbgjidddnaaa
open Go.ChangeShapes Go.WideShapes Go.ChangeAt Go.RowKit Go.Ax
theorem Try.own : ownKnob Try.prog.godebug = none := by kernel_rfl
theorem Try.laidOut : laidOutB Try.prog = true := by kernel_rfl
theorem Try.samePr : Try.checked.prog = Try.prog := by kernel_rfl
set_option maxRecDepth 1000000 in
theorem c0M (os : Os) (started : os.Started) (H : Type) (enc : TypeId × Value → H) :
  ReturnsInHanded {} Try.checked os 5 .any (Rows.dsaTriesSpec.pre6 enc Try.prog Try.f5 Rows.dsaTriesRow.domain false) (Rows.dsaTriesSpec.post enc Try.prog Try.f5 false true false false) := by
 refine returnsInHanded_of_change (C := Try.checked) Try.own started (by kernel_rfl) Try.func5
  (ChangeSpec.witness6 (enc := enc) (C := Try.checked) false ⟨#[], #[.agg ((List.replicate 32 (Value.int .u8 0)).toArray), .agg ((List.replicate 32 (Value.int .u8 0)).toArray), .slice none 0 0, .int .u8 0, .int .u8 0], []⟩ 8 (by kernel_rfl) (by kernel_rfl) (by kernel_rfl) (by kernel_rfl)) ?_
 intro W base args ds gs before hval hW hcnd _
 exact c52 Try.samePr (f := 5) (fn := Try.f5) (s := Rows.dsaTriesSpec) (tb := 4) (ks := [.xs (.int .u8) 32, .xs (.int .u8) 32, .sl (.int .u8), .int .u8, .int .u8]) Go.Ax.TryP.s_law16_DsaTries Try.laidOut (a8x 22 [22, 23, 5, 5] (by kernel_rfl) (d2h Try.underlying22 Try.underlying5 (by kernel_rfl) (by kernel_rfl)) (by kernel_rfl) (of_decide_eq_true (by kernel_rfl)) (a8x 22 [23, 5, 5] rfl (d2h Try.underlying22 Try.underlying5 (by kernel_rfl) (by kernel_rfl)) (by kernel_rfl) (of_decide_eq_true (by kernel_rfl)) (a8x 23 [5, 5] rfl (d6o Try.underlying23 Try.underlying5 (by kernel_rfl)) (by kernel_rfl) (of_decide_eq_true (by kernel_rfl)) (a8x 5 [5] rfl (c9f Try.underlying5) (by kernel_rfl) (of_decide_eq_true (by kernel_rfl)) (a8x 5 [] rfl (c9f Try.underlying5) (by kernel_rfl) (of_decide_eq_true (by kernel_rfl)) d2i)))))
  (fun x hw => d8 hw trivial) (fun ds h => match ds, h with | [d1, d2, d3, d4, d5], _ => rfl) rfl (by kernel_rfl) Try.underlying4 hval hW
set_option maxRecDepth 1000000 in
theorem dsaTries_holds : Rows.DsaTriesSaid :=
 OpenClaim.holds_of_wide 5 Try.f5 rfl rfl rfl rfl rfl rfl rfl ⟨rfl, rfl, rfl, rfl, rfl⟩ rfl rfl rfl rfl rfl (by kernel_rfl) Try.func5 (by kernel_rfl)
  (of_decide_eq_true (by kernel_rfl)) (by unfold Func.isWrapper; first | (rw [if_pos (by decide +kernel)]; kernel_rfl) | (rw [if_neg (by decide +kernel)]; exact ⟨rfl, rfl⟩))
  (fun os started H enc _ => c0M os started H enc)
end Go.Proofs.Ytbcjbgjidddnaaa
