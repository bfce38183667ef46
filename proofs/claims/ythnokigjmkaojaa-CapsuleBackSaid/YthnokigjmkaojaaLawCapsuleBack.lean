/- For every input the law CapsuleBack returns true. No conditions. -/
import Derived.Test.YthnokigjmkaojaaCapC
import Derived.Test.YthnokigjmkaojaaRows
namespace Go.Proofs.Ythnokigjmkaojaa
open Go.ChangeShapes Go.WideShapes Go.ChangeAt Go.RowKit Go.Ax

theorem Try.own : ownKnob Try.prog.godebug = none := by kernel_rfl
theorem Try.laidOut : laidOutB Try.prog = true := by kernel_rfl
theorem Try.samePr : Try.checked.prog = Try.prog := by kernel_rfl
set_option maxRecDepth 1000000 in
theorem capsuleBack_lifted (os : Os) (started : os.Started) (H : Type) (enc : TypeId × Value → H) :
    ReturnsInHanded {} Try.checked os 7 .any (Rows.capsuleBackSpec.pre6 enc Try.prog Try.f7 Rows.capsuleBackRow.domain false) (Rows.capsuleBackSpec.post enc Try.prog Try.f7 false true false false) := by
  refine returnsInHanded_of_change (C := Try.checked) Try.own started (by kernel_rfl) Try.func7
    (ChangeSpec.witness6 (enc := enc) (C := Try.checked) false ⟨#[], #[.agg #[.int .i64 0, .int .i64 0, .int .u32 0, .int .u32 0, .int .u64 0, .int .u64 0, .slice none 0 0, .slice none 0 0, .slice none 0 0, .slice none 0 0], .slice none 0 0], []⟩ 8 (by kernel_rfl) (by kernel_rfl) (by kernel_rfl) (by kernel_rfl)) ?_
  intro W base args ds gs before hval hW hcnd _
  exact law_calls_eq Try.samePr (f := 7) (fn := Try.f7) (s := Rows.capsuleBackSpec) (tb := 4) (ks := [.cat [.int .i64, .int .i64, .int .u32, .int .u32, .int .u64, .int .u64, .sl (.int .u8), .sl (.int .u8), .sl (.int .u8), .sl (.int .u8)], .sl (.int .u8)]) Go.Ax.TryP.s_law23_CapsuleBack Try.laidOut (isTys_cons 37 [22] (by kernel_rfl) (⟨⟨_, Try.underlying37⟩, (.st' 10 Try.underlying37 (by kernel_rfl) (.cons' (L := [.int .i64]) (L' := [.int .i64, .int .u32, .int .u32, .int .u64, .int .u64, .sl (.int .u8), .sl (.int .u8), .sl (.int .u8), .sl (.int .u8)]) 1 1 rfl rfl rfl rfl (by kernel_rfl) (.int Try.underlying3 (by kernel_rfl)) (.cons' (L := [.int .i64]) (L' := [.int .u32, .int .u32, .int .u64, .int .u64, .sl (.int .u8), .sl (.int .u8), .sl (.int .u8), .sl (.int .u8)]) 1 2 rfl rfl rfl rfl (by kernel_rfl) (.int Try.underlying3 (by kernel_rfl)) (.cons' (L := [.int .u32]) (L' := [.int .u32, .int .u64, .int .u64, .sl (.int .u8), .sl (.int .u8), .sl (.int .u8), .sl (.int .u8)]) 1 3 rfl rfl rfl rfl (by kernel_rfl) (.int Try.underlying32 (by kernel_rfl)) (.cons' (L := [.int .u32]) (L' := [.int .u64, .int .u64, .sl (.int .u8), .sl (.int .u8), .sl (.int .u8), .sl (.int .u8)]) 1 4 rfl rfl rfl rfl (by kernel_rfl) (.int Try.underlying32 (by kernel_rfl)) (.cons' (L := [.int .u64, .int .u64]) (L' := [.sl (.int .u8), .sl (.int .u8), .sl (.int .u8), .sl (.int .u8)]) 2 6 rfl rfl rfl rfl (by kernel_rfl) (.st' 2 Try.underlying35 (by kernel_rfl) (.cons' (L := [.int .u64]) (L' := [.int .u64]) 1 1 rfl rfl rfl rfl (by kernel_rfl) (.int Try.underlying33 (by kernel_rfl)) (.cons' (L := [.int .u64]) (L' := []) 1 2 rfl rfl rfl rfl (by kernel_rfl) (.int Try.underlying33 (by kernel_rfl)) .nil))) (.cons' (L := [.sl (.int .u8)]) (L' := [.sl (.int .u8), .sl (.int .u8), .sl (.int .u8)]) 1 7 rfl rfl rfl rfl (by kernel_rfl) (.sl Try.underlying22 Try.underlying5 (by kernel_rfl) (by kernel_rfl)) (.cons' (L := [.sl (.int .u8)]) (L' := [.sl (.int .u8), .sl (.int .u8)]) 1 8 rfl rfl rfl rfl (by kernel_rfl) (.sl Try.underlying22 Try.underlying5 (by kernel_rfl) (by kernel_rfl)) (.cons' (L := [.sl (.int .u8)]) (L' := [.sl (.int .u8)]) 1 9 rfl rfl rfl rfl (by kernel_rfl) (.sl Try.underlying22 Try.underlying5 (by kernel_rfl) (by kernel_rfl)) (.cons' (L := [.sl (.int .u8)]) (L' := []) 1 10 rfl rfl rfl rfl (by kernel_rfl) (.sl Try.underlying22 Try.underlying5 (by kernel_rfl) (by kernel_rfl)) .nil))))))))))⟩ : Kd.isTy Try.prog 37 (.cat [.int .i64, .int .i64, .int .u32, .int .u32, .int .u64, .int .u64, .sl (.int .u8), .sl (.int .u8), .sl (.int .u8), .sl (.int .u8)])) (by kernel_rfl) (of_decide_eq_true (by kernel_rfl)) (isTys_cons 22 [] rfl (isTy_sl Try.underlying22 Try.underlying5 (by kernel_rfl)) (by kernel_rfl) (of_decide_eq_true (by kernel_rfl)) isTys_nil))
    (fun x hw => Spec_at hw trivial) (fun ds h => match ds, h with | [d1, d2], _ => rfl) rfl (by kernel_rfl) Try.underlying4 hval hW

set_option maxRecDepth 1000000 in
theorem capsuleBack_holds : Rows.CapsuleBackSaid :=
  OpenClaim.holds_of_wide 7 Try.f7 rfl rfl rfl rfl rfl rfl rfl ⟨rfl, rfl, rfl, rfl, rfl⟩ rfl rfl rfl rfl rfl (by kernel_rfl) Try.func7 (by kernel_rfl)
    (of_decide_eq_true (by kernel_rfl)) (by unfold Func.isWrapper; first | (rw [if_pos (by decide +kernel)]; kernel_rfl) | (rw [if_neg (by decide +kernel)]; exact ⟨rfl, rfl⟩))
    (fun os started H enc _ => capsuleBack_lifted os started H enc)
end Go.Proofs.Ythnokigjmkaojaa
