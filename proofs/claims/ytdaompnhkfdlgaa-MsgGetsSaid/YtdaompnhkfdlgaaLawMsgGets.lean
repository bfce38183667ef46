/- For every input the law MsgGets returns true. No conditions. -/
import Derived.Test.YtdaompnhkfdlgaaMsgH
import Derived.Test.YtdaompnhkfdlgaaRows
namespace Go.Proofs.Ytdaompnhkfdlgaa
open Go.ChangeShapes Go.WideShapes Go.ChangeAt Go.RowKit Go.Ax
theorem Try.own : ownKnob Try.prog.godebug = none := by kernel_rfl
theorem Try.laidOut : laidOutB Try.prog = true := by kernel_rfl
theorem Try.samePr : Try.checked.prog = Try.prog := by kernel_rfl
set_option maxRecDepth 1000000 in
theorem b0a (os : Os) (started : os.Started) (H : Type) (enc : TypeId × Value → H) :
  ReturnsInHanded {} Try.checked os 8 .any (Rows.msgGetsSpec.pre6 enc Try.prog Try.f8 Rows.msgGetsRow.domain false) (Rows.msgGetsSpec.post enc Try.prog Try.f8 false true false false) := by
 refine returnsInHanded_of_change (C := Try.checked) Try.own started (by kernel_rfl) Try.func8
  (ChangeSpec.witness6 (enc := enc) (C := Try.checked) false ⟨#[], #[.slice none 0 0], []⟩ 8 (by kernel_rfl) (by kernel_rfl) (by kernel_rfl) (by kernel_rfl)) ?_
 intro W base args ds gs before hval hW hcnd _
 exact b2W Try.samePr (f := 8) (fn := Try.f8) (s := Rows.msgGetsSpec) (tb := 4) (ks := [.sl (.int .u8)]) Go.Ax.TryP.s_law21_MsgGets Try.laidOut (b6r 29 [] (by kernel_rfl) (c0s Try.underlying29 Try.underlying5 (by kernel_rfl)) (by kernel_rfl) (of_decide_eq_true (by kernel_rfl)) b7H)
  (fun x hw => j6 hw trivial) (fun ds h => match ds, h with | [d], _ => rfl) rfl (by kernel_rfl) Try.underlying4 hval hW
set_option maxRecDepth 1000000 in
theorem msgGets_holds : Rows.MsgGetsSaid :=
 OpenClaim.holds_of_wide 8 Try.f8 rfl rfl rfl rfl rfl rfl rfl ⟨rfl, rfl, rfl, rfl, rfl⟩ rfl rfl rfl rfl rfl (by kernel_rfl) Try.func8 (by kernel_rfl)
  (of_decide_eq_true (by kernel_rfl)) (by unfold Func.isWrapper; first | (rw [if_pos (by decide +kernel)]; kernel_rfl) | (rw [if_neg (by decide +kernel)]; exact ⟨rfl, rfl⟩))
  (fun os started H enc _ => b0a os started H enc)
end Go.Proofs.Ytdaompnhkfdlgaa
