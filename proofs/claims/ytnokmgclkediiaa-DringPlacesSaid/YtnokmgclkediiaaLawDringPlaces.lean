/- For every input the law DringPlaces returns true. No conditions. -/
import Derived.Test.YtnokmgclkediiaaPlcA
import Derived.Test.YtnokmgclkediiaaRows
namespace Go.Proofs.Ytnokmgclkediiaa
open Go.ChangeShapes Go.WideShapes Go.ChangeAt Go.RowKit Go.Ax

theorem Try.own : ownKnob Try.prog.godebug = none := by kernel_rfl
theorem Try.laidOut : laidOutB Try.prog = true := by kernel_rfl
theorem Try.samePr : Try.checked.prog = Try.prog := by kernel_rfl
set_option maxRecDepth 1000000 in
theorem dringPlaces_lifted (os : Os) (started : os.Started) (H : Type) (enc : TypeId × Value → H) :
    ReturnsInHanded {} Try.checked os 7 .any (Rows.dringPlacesSpec.pre6 enc Try.prog Try.f7 Rows.dringPlacesRow.domain false) (Rows.dringPlacesSpec.post enc Try.prog Try.f7 false true false false) := by
  refine returnsInHanded_of_change (C := Try.checked) Try.own started (by kernel_rfl) Try.func7
    (ChangeSpec.witness6 (enc := enc) (C := Try.checked) false ⟨#[], #[.slice none 0 0, .int .i64 0, .int .i64 0, .slice none 0 0], []⟩ 8 (by kernel_rfl) (by kernel_rfl) (by kernel_rfl) (by kernel_rfl)) ?_
  intro W base args ds gs before hval hW hcnd _
  exact law_calls_eq Try.samePr (f := 7) (fn := Try.f7) (s := Rows.dringPlacesSpec) (tb := 4) (ks := [.sla .bool 256, .int .i64, .int .i64, .sl (.int .u8)]) Go.Ax.TryP.s_law15_DringPlaces Try.laidOut (isTys_cons 38 [3, 3, 39] (by kernel_rfl) (⟨31, Try.underlying38, .xsb Try.underlying31 Try.underlying4 (by kernel_rfl) (by kernel_rfl), by kernel_rfl, by decide⟩ : Kd.isTy Try.prog 38 (.sla .bool 256)) (by kernel_rfl) (of_decide_eq_true (by kernel_rfl)) (isTys_cons 3 [3, 39] rfl (isTy_int Try.underlying3) (by kernel_rfl) (of_decide_eq_true (by kernel_rfl)) (isTys_cons 3 [39] rfl (isTy_int Try.underlying3) (by kernel_rfl) (of_decide_eq_true (by kernel_rfl)) (isTys_cons 39 [] rfl (isTy_sl Try.underlying39 Try.underlying5 (by kernel_rfl)) (by kernel_rfl) (of_decide_eq_true (by kernel_rfl)) isTys_nil))))
    (fun x hw => Spec_at hw trivial) (fun ds h => match ds, h with | [d1, d2, d3, d4], _ => rfl) rfl (by kernel_rfl) Try.underlying4 hval hW

set_option maxRecDepth 1000000 in
theorem dringPlaces_holds : Rows.DringPlacesSaid :=
  OpenClaim.holds_of_wide 7 Try.f7 rfl rfl rfl rfl rfl rfl rfl ⟨rfl, rfl, rfl, rfl, rfl⟩ rfl rfl rfl rfl rfl (by kernel_rfl) Try.func7 (by kernel_rfl)
    (of_decide_eq_true (by kernel_rfl)) (by unfold Func.isWrapper; first | (rw [if_pos (by decide +kernel)]; kernel_rfl) | (rw [if_neg (by decide +kernel)]; exact ⟨rfl, rfl⟩))
    (fun os started H enc _ => dringPlaces_lifted os started H enc)
end Go.Proofs.Ytnokmgclkediiaa
