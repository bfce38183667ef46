/- A part of the proof: RingS2, RingP2, RingQ5, RingQ6, RingS3, RingP3, RingQ7, RingQ8. -/
import Derived.Test.YtefpbeklpfihfaaRingA
/-! ### More of what the functions of the ring compute -/
namespace Go.Ax.TryP

def root (i : Nat) : Int := 17 ^ (2 * rev7 i + 1) % 3329
noncomputable def g_ref13_rev : Int × Unit → Option Int := Spec (ks := [.int .i64]) (rs := [.int .i64]) (fun x => 0 ≤ x.1 ∧ x.1 ≤ 127) fun x => (rev7 x.1.toNat : Int)
noncomputable def g_ref13_power : Int × Int × Unit → Option Int := Spec (ks := [.int .i64, .int .i64]) (rs := [.int .i64]) (fun x => (0 ≤ x.1 ∧ x.1 ≤ 3328) ∧ 0 ≤ x.2.1 ∧ x.2.1 ≤ 1000) fun x => x.1 ^ x.2.1.toNat % 3329
noncomputable def g_ref13_Root : Int × Unit → Option Int := Spec (ks := [.int .i64]) (rs := [.int .i64]) (fun x => 0 ≤ x.1 ∧ x.1 ≤ 127) fun x => root x.1.toNat
/-- The product of two pairs. -/
def mval (a b : List Int) (j : Nat) : Int :=
  if j % 2 = 0 then ((a.getD j 0 % 3329) * (b.getD j 0 % 3329) + (a.getD (j + 1) 0 % 3329) * (b.getD (j + 1) 0 % 3329) % 3329 * root (j / 2)) % 3329
  else ((a.getD (j - 1) 0 % 3329) * (b.getD j 0 % 3329) + (a.getD j 0 % 3329) * (b.getD (j - 1) 0 % 3329)) % 3329
def fMulN (a b : List Int) : List Int := poly (mval a b)
noncomputable def g_ring_MulNtt : List Int × List Int × Unit → Option (List Int) := Spec (ks := [.xs (.int .u16) 256, .xs (.int .u16) 256]) (rs := [.xs (.int .u16) 256]) (fun _ => True) fun x => fMulN x.1 x.2.1
noncomputable def g_ref13_MulNtt : List Int × List Int × Unit → Option (List Int) := Spec (ks := [.xs (.int .u16) 256, .xs (.int .u16) 256]) (rs := [.xs (.int .u16) 256]) (fun _ => True) fun x => fMulN x.1 x.2.1
noncomputable def g_law13_RingPairs : List Int × List Int × Unit → Option Bool := Spec (ks := [.xs (.int .u16) 256, .xs (.int .u16) 256]) (rs := [.bool]) (fun _ => True) fun _ => true
noncomputable def g_law13_RingNear : Int × List Int × Unit → Option Bool := Spec (ks := [.int .i64, .xs (.int .u16) 256]) (rs := [.bool]) (fun _ => True) fun _ => true
end Go.Ax.TryP
/-! Printed by program (gen.py). -/
set_option linter.unusedVariables false
namespace Go.Ax.TryP
/-! livery/liverylaw13.RingNear -/
noncomputable def p_law13_RingNear_E : AE := AE.of [(3, ty3), (22, ty22), (24, ty24), (31, ty31)] [(14, ⟨[.int .i64, .xs (.int .u16) 256], [.xs (.int .u16) 256, .int .i64], g_ring_Compress⟩), (16, ⟨[.int .i64, .xs (.int .u16) 256], [.xs (.int .u16) 256, .int .i64], g_ring_Decompress⟩), (18, ⟨[], [.bool], g_law13_live⟩), (19, ⟨[.int .i64, .int .i64, .int .i64], [.int .i64], g_ref13_Near⟩)]
noncomputable def p_law13_RingNear_H : Hints := [(7, [0, 3, 5, 7, 9, 47]), (2000000, []), (2000001, [0, 3, 5, 7, 9, 47]), (3000000, [4])]
noncomputable def p_law13_RingNear_c : Code := (Go.Proofs.Try.f4).body.getD .skip
noncomputable def p_law13_RingNear_l7_S : Shape where
  h := { tmps := [.sc (.int .i64), .any, .any, .sc (.ptr 0 0 false), .any, .sc (.ptr 1 0 false), .any, .sc (.ptr 2 0 false), .any, .sc (.int .i64), .any, .any, .any, .any, .any, .any, .any, .any, .any, .any, .any, .any, .any, .any, .any, .any, .any, .any, .any, .any, .any, .any, .any, .any, .any, .any, .any, .any, .any, .any, .any, .any, .any, .any, .any, .any, .any, .sc (.int .i64), .any, .any, .any, .any, .any, .any, .any, .any, .any, .any, .any, .any, .any, .any, .any, .any, .any, .any, .any, .any, .any, .any, .any, .any, .any, .any, .any, .any, .any, .any, .any], mem := [.live [.xs (.int .u16) (some 256)] true, .live [.xs (.int .u16) (some 256)] true, .live [.xs (.int .u16) (some 256)] true] }
  ks := [.int, .int, .int, .xs, .xs, .xs]
  st := fun x => { tmps := [.one (.sc (.int .i64 x.1)), .one .any, .one .any, .one (.sc (.ptr 0 0 none)), .one .any, .one (.sc (.ptr 1 0 none)), .one .any, .one (.sc (.ptr 2 0 none)), .one .any, .one (.sc (.int .i64 x.2.1)), .one .any, .one .any, .one .any, .one .any, .one .any, .one .any, .one .any, .one .any, .one .any, .one .any, .one .any, .one .any, .one .any, .one .any, .one .any, .one .any, .one .any, .one .any, .one .any, .one .any, .one .any, .one .any, .one .any, .one .any, .one .any, .one .any, .one .any, .one .any, .one .any, .one .any, .one .any, .one .any, .one .any, .one .any, .one .any, .one .any, .one .any, .one (.sc (.int .i64 x.2.2.1)), .one .any, .one .any, .one .any, .one .any, .one .any, .one .any, .one .any, .one .any, .one .any, .one .any, .one .any, .one .any, .one .any, .one .any, .one .any, .one .any, .one .any, .one .any, .one .any, .one .any, .one .any, .one .any, .one .any, .one .any, .one .any, .one .any, .one .any, .one .any, .one .any, .one .any, .one .any], mem := [.live { segs := [.xs (.int .u16) 256 x.2.2.2.1], own := true }, .live { segs := [.xs (.int .u16) 256 x.2.2.2.2.1], own := true }, .live { segs := [.xs (.int .u16) 256 x.2.2.2.2.2.1], own := true }] }
noncomputable def p_law13_RingNear_l7_F (N : Nat) (β : Type) (x : (Int × Int × Int × List Int × List Int × List Int × Unit)) (kn : (Int × Int × Int × List Int × List Int × List Int × Unit) → Option β) (ke : ((Bool × Unit) ⊕ (Unit)) → Option β) : Option β :=
  if (x.2.2.1 < (256:Int)) then
    if 0 ≤ x.2.2.1 then (
    if x.2.2.1 < 256 then (
    if (x.2.2.1.toNat) < 256 then (
    if 0 ≤ x.2.2.1 then (
    if x.2.2.1 < 256 then (
    if (x.2.2.1.toNat) < 256 then (
    if ((if (IntKind.i64.wrap ((3329:Int) - (Int.tmod (IntKind.i64.wrap ((IntKind.i64.wrap ((IntKind.i64.wrap (List.getD x.2.2.2.2.2.1 (x.2.2.1.toNat) 0)) + (3329:Int))) - (IntKind.i64.wrap (Int.tmod (List.getD x.2.2.2.1 (x.2.2.1.toNat) 0) (3329:Int))))) (3329:Int)))) < (Int.tmod (IntKind.i64.wrap ((IntKind.i64.wrap ((IntKind.i64.wrap (List.getD x.2.2.2.2.2.1 (x.2.2.1.toNat) 0)) + (3329:Int))) - (IntKind.i64.wrap (Int.tmod (List.getD x.2.2.2.1 (x.2.2.1.toNat) 0) (3329:Int))))) (3329:Int)) then (IntKind.i64.wrap ((3329:Int) - (Int.tmod (IntKind.i64.wrap ((IntKind.i64.wrap ((IntKind.i64.wrap (List.getD x.2.2.2.2.2.1 (x.2.2.1.toNat) 0)) + (3329:Int))) - (IntKind.i64.wrap (Int.tmod (List.getD x.2.2.2.1 (x.2.2.1.toNat) 0) (3329:Int))))) (3329:Int)))) else (Int.tmod (IntKind.i64.wrap ((IntKind.i64.wrap ((IntKind.i64.wrap (List.getD x.2.2.2.2.2.1 (x.2.2.1.toNat) 0)) + (3329:Int))) - (IntKind.i64.wrap (Int.tmod (List.getD x.2.2.2.1 (x.2.2.1.toNat) 0) (3329:Int))))) (3329:Int))) > x.2.1) then
      ke (.inl (false, ()))
    else
      if 0 ≤ x.2.2.1 then (
      if x.2.2.1 < 256 then (
      if (x.2.2.1.toNat) < 256 then (
      if (IntKind.u64.wrap x.1) < 0 then none else (
      if ((IntKind.i64.wrap (List.getD x.2.2.2.2.1 (x.2.2.1.toNat) 0)) ≥ (ishl IntKind.i64 (1:Int) (IntKind.u64.wrap x.1))) then
        ke (.inl (false, ()))
      else
        kn (x.1, x.2.1, (IntKind.i64.wrap (x.2.2.1 + (1:Int))), x.2.2.2.1, x.2.2.2.2.1, x.2.2.2.2.2.1, ()))) else none) else none) else none) else none) else none) else none) else none) else none) else none
  else
    ke (.inr (()))
noncomputable def p_law13_RingNear_l7_go : Go' ((Bool × Unit) ⊕ (Unit)) := fun y K => match y with
  | .inl y => K .ret { tmps := [.one .any, .one .any, .one .any, .one .any, .one (.sc (.known y.1)), .one .any, .one .any, .one .any, .one .any, .one .any, .one .any, .one .any, .one .any, .one .any, .one .any, .one .any, .one .any, .one .any, .one .any, .one .any, .one .any, .one .any, .one .any, .one .any, .one .any, .one .any, .one .any, .one .any, .one .any, .one .any, .one .any, .one .any, .one .any, .one .any, .one .any, .one .any, .one .any, .one .any, .one .any, .one .any, .one .any, .one .any, .one .any, .one .any, .one .any, .one .any, .one .any, .one .any, .one .any, .one .any, .one .any, .one .any, .one .any, .one .any, .one .any, .one .any, .one .any, .one .any, .one .any, .one .any, .one .any, .one .any, .one .any, .one .any, .one .any, .one .any, .one .any, .one .any, .one .any, .one .any, .one .any, .one .any, .one .any, .one .any, .one .any, .one .any, .one .any, .one .any, .one .any], mem := [] }
  | .inr y => K (.exit 0) { tmps := [.one .any, .one .any, .one .any, .one .any, .one .any, .one .any, .one .any, .one .any, .one .any, .one .any, .one .any, .one .any, .one .any, .one .any, .one .any, .one .any, .one .any, .one .any, .one .any, .one .any, .one .any, .one .any, .one .any, .one .any, .one .any, .one .any, .one .any, .one .any, .one .any, .one .any, .one .any, .one .any, .one .any, .one .any, .one .any, .one .any, .one .any, .one .any, .one .any, .one .any, .one .any, .one .any, .one .any, .one .any, .one .any, .one .any, .one .any, .one .any, .one .any, .one .any, .one .any, .one .any, .one .any, .one .any, .one .any, .one .any, .one .any, .one .any, .one .any, .one .any, .one .any, .one .any, .one .any, .one .any, .one .any, .one .any, .one .any, .one .any, .one .any, .one .any, .one .any, .one .any, .one .any, .one .any, .one .any, .one .any, .one .any, .one .any, .one .any], mem := [] }
noncomputable def p_law13_RingNear_l7_L (N : Nat) : LT := upd (LT.nil) 7 (loopE p_law13_RingNear_l7_S N (p_law13_RingNear_l7_F N) p_law13_RingNear_l7_go)
theorem p_law13_RingNear_l7_ok (N : Nat) : OkAll p_law13_RingNear_E p_law13_RingNear_H N (p_law13_RingNear_l7_L N) (subs p_law13_RingNear_c) :=
  addLoop (c := theLoop 7 p_law13_RingNear_c) (OkAll.nil) (by kernel_rfl) (fun x => by kernel_rfl) (fun β x kn ke => by kernel_rfl)
abbrev p_law13_RingNear_ks : List Kd := [.int .i64, .xs (.int .u16) 256]
abbrev p_law13_RingNear_rs : List Kd := [.bool]
noncomputable def p_law13_RingNear (N : Nat) (x : Int × List Int × Unit) : Option (Bool) :=
  (g_ring_Compress (x.1, x.2.1, ())).bind fun r1 => (
  (g_ring_Decompress (x.1, r1.1, ())).bind fun r2 => (
  (g_law13_live (())).bind fun r3 => (
  if (¬ (r3 = true)) then
    (g_law13_live (())).bind fun r4 => (
    if (r4 = true) then
      if (x.1 < (1:Int)) then
        some true
      else
        some (decide (x.1 > (11:Int)))
    else
      some false)
  else
    if (r1.2 ≠ (0:Int)) then
      (g_law13_live (())).bind fun r5 => (
      if (r5 = true) then
        if (x.1 < (1:Int)) then
          some true
        else
          some (decide (x.1 > (11:Int)))
      else
        some false)
    else
      if (r2.2 ≠ (0:Int)) then
        (g_law13_live (())).bind fun r6 => (
        if (r6 = true) then
          if (x.1 < (1:Int)) then
            some true
          else
            some (decide (x.1 > (11:Int)))
        else
          some false)
      else
        if (IntKind.u64.wrap x.1) < 0 then none else (
        (g_ref13_Near ((1:Int), (3329:Int), (ishl IntKind.i64 (2:Int) (IntKind.u64.wrap x.1)), ())).bind fun r7 => (
        iter (p_law13_RingNear_l7_F N) N (x.1, r7, (0:Int), x.2.1, r1.1, r2.1, ()) fun y => (match y with
        | .inl y8 => (
          some y8.1)
        | .inr y9 => (
          some true)))))))
theorem p_law13_RingNear_eq (N : Nat) (x : Ds [.int .i64, .xs (.int .u16) 256]) : funL p_law13_RingNear_E p_law13_RingNear_H (p_law13_RingNear_l7_L N) N Go.Proofs.Try.f4 p_law13_RingNear_c [.int .i64, .xs (.int .u16) 256] [.bool] x = p_law13_RingNear N x := by kernel_rfl
theorem p_law13_RingNear_Eok (he_ring_Compress : SigOk Go.Proofs.Try.prog 14 ⟨[.int .i64, .xs (.int .u16) 256], [.xs (.int .u16) 256, .int .i64], g_ring_Compress⟩) (he_ring_Decompress : SigOk Go.Proofs.Try.prog 16 ⟨[.int .i64, .xs (.int .u16) 256], [.xs (.int .u16) 256, .int .i64], g_ring_Decompress⟩) (he_law13_live : SigOk Go.Proofs.Try.prog 18 ⟨[], [.bool], g_law13_live⟩) (he_ref13_Near : SigOk Go.Proofs.Try.prog 19 ⟨[.int .i64, .int .i64, .int .i64], [.int .i64], g_ref13_Near⟩) : p_law13_RingNear_E.Ok Go.Proofs.Try.prog := AE.of_ok (all_cons ty3_ok (all_cons ty22_ok (all_cons ty24_ok (all_cons ty31_ok all_nil)))) (all_cons ⟨he_ring_Compress, enters_ring_Compress⟩ (all_cons ⟨he_ring_Decompress, enters_ring_Decompress⟩ (all_cons ⟨he_law13_live, enters_law13_live⟩ (all_cons ⟨he_ref13_Near, enters_ref13_Near⟩ all_nil))))
theorem p_law13_RingNear_ok (he_ring_Compress : SigOk Go.Proofs.Try.prog 14 ⟨[.int .i64, .xs (.int .u16) 256], [.xs (.int .u16) 256, .int .i64], g_ring_Compress⟩) (he_ring_Decompress : SigOk Go.Proofs.Try.prog 16 ⟨[.int .i64, .xs (.int .u16) 256], [.xs (.int .u16) 256, .int .i64], g_ring_Decompress⟩) (he_law13_live : SigOk Go.Proofs.Try.prog 18 ⟨[], [.bool], g_law13_live⟩) (he_ref13_Near : SigOk Go.Proofs.Try.prog 19 ⟨[.int .i64, .int .i64, .int .i64], [.int .i64], g_ref13_Near⟩) {g : Ds [.int .i64, .xs (.int .u16) 256] → Option (Rs [.bool])} (hg : ∀ x r, g x = some r → ∃ N, p_law13_RingNear N x = some r) : SigOk Go.Proofs.Try.prog 4 ⟨[.int .i64, .xs (.int .u16) 256], [.bool], g⟩ :=
  fun_of (E := p_law13_RingNear_E) (H := p_law13_RingNear_H) (L := fun N => p_law13_RingNear_l7_L N) (c := p_law13_RingNear_c) (ks := p_law13_RingNear_ks) (rs := p_law13_RingNear_rs) (F := p_law13_RingNear) (p_law13_RingNear_Eok he_ring_Compress he_ring_Decompress he_law13_live he_ref13_Near) mix Go.Proofs.Try.func4 (by kernel_rfl) (fun N => p_law13_RingNear_l7_ok N) p_law13_RingNear_eq hg

/-! livery/liverylaw13.RingPairs -/
noncomputable def p_law13_RingPairs_E : AE := AE.of [(22, ty22), (24, ty24)] [(18, ⟨[], [.bool], g_law13_live⟩), (20, ⟨[.xs (.int .u16) 256, .xs (.int .u16) 256], [.xs (.int .u16) 256], g_ring_MulNtt⟩), (21, ⟨[.xs (.int .u16) 256, .xs (.int .u16) 256], [.xs (.int .u16) 256], g_ref13_MulNtt⟩)]
noncomputable def p_law13_RingPairs_H : Hints := [(3000000, [4])]
noncomputable def p_law13_RingPairs_c : Code := (Go.Proofs.Try.f5).body.getD .skip
abbrev p_law13_RingPairs_ks : List Kd := [.xs (.int .u16) 256, .xs (.int .u16) 256]
abbrev p_law13_RingPairs_rs : List Kd := [.bool]
noncomputable def p_law13_RingPairs (N : Nat) (x : List Int × List Int × Unit) : Option (Bool) :=
  (g_law13_live (())).bind fun r1 => (
  if (r1 = true) then
    (g_ring_MulNtt (x.1, x.2.1, ())).bind fun r2 => (
    (g_ref13_MulNtt (x.1, x.2.1, ())).bind fun r3 => (
    some (decide (r2 = r3))))
  else
    some false)
theorem p_law13_RingPairs_eq (N : Nat) (x : Ds [.xs (.int .u16) 256, .xs (.int .u16) 256]) : funL p_law13_RingPairs_E p_law13_RingPairs_H (LT.nil) N Go.Proofs.Try.f5 p_law13_RingPairs_c [.xs (.int .u16) 256, .xs (.int .u16) 256] [.bool] x = p_law13_RingPairs N x := by kernel_rfl
theorem p_law13_RingPairs_Eok (he_law13_live : SigOk Go.Proofs.Try.prog 18 ⟨[], [.bool], g_law13_live⟩) (he_ring_MulNtt : SigOk Go.Proofs.Try.prog 20 ⟨[.xs (.int .u16) 256, .xs (.int .u16) 256], [.xs (.int .u16) 256], g_ring_MulNtt⟩) (he_ref13_MulNtt : SigOk Go.Proofs.Try.prog 21 ⟨[.xs (.int .u16) 256, .xs (.int .u16) 256], [.xs (.int .u16) 256], g_ref13_MulNtt⟩) : p_law13_RingPairs_E.Ok Go.Proofs.Try.prog := AE.of_ok (all_cons ty22_ok (all_cons ty24_ok all_nil)) (all_cons ⟨he_law13_live, enters_law13_live⟩ (all_cons ⟨he_ring_MulNtt, enters_ring_MulNtt⟩ (all_cons ⟨he_ref13_MulNtt, enters_ref13_MulNtt⟩ all_nil)))
theorem p_law13_RingPairs_ok (he_law13_live : SigOk Go.Proofs.Try.prog 18 ⟨[], [.bool], g_law13_live⟩) (he_ring_MulNtt : SigOk Go.Proofs.Try.prog 20 ⟨[.xs (.int .u16) 256, .xs (.int .u16) 256], [.xs (.int .u16) 256], g_ring_MulNtt⟩) (he_ref13_MulNtt : SigOk Go.Proofs.Try.prog 21 ⟨[.xs (.int .u16) 256, .xs (.int .u16) 256], [.xs (.int .u16) 256], g_ref13_MulNtt⟩) {g : Ds [.xs (.int .u16) 256, .xs (.int .u16) 256] → Option (Rs [.bool])} (hg : ∀ x r, g x = some r → ∃ N, p_law13_RingPairs N x = some r) : SigOk Go.Proofs.Try.prog 5 ⟨[.xs (.int .u16) 256, .xs (.int .u16) 256], [.bool], g⟩ :=
  fun_of (E := p_law13_RingPairs_E) (H := p_law13_RingPairs_H) (L := fun N => LT.nil) (c := p_law13_RingPairs_c) (ks := p_law13_RingPairs_ks) (rs := p_law13_RingPairs_rs) (F := p_law13_RingPairs) (p_law13_RingPairs_Eok he_law13_live he_ring_MulNtt he_ref13_MulNtt) mix Go.Proofs.Try.func5 (by kernel_rfl) (fun N => OkAll.nil) p_law13_RingPairs_eq hg

/-! livery/ring.MulNtt -/
noncomputable def p_ring_MulNtt_E : AE := AE.of [(22, ty22), (24, ty24), (48, ty48)] [(37, ⟨[.xs (.int .u16) 256], [.xs (.int .u16) 256], g_ring_Reduce⟩), (46, ⟨[], [.xs (.int .u16) 128], g_ring_powers⟩), (47, ⟨[.int .u16, .int .u16], [.int .u16], g_ring_times⟩)]
noncomputable def p_ring_MulNtt_H : Hints := [(5, [2, 3, 4, 5, 6, 18]), (2000000, [4, 6]), (2000001, [2, 3, 4, 5, 6, 18]), (3000000, [4])]
noncomputable def p_ring_MulNtt_c : Code := (Go.Proofs.Try.f20).body.getD .skip
noncomputable def p_ring_MulNtt_l5_S : Shape where
  h := { tmps := [.any, .any, .sc (.ptr 0 0 false), .sc (.ptr 1 0 false), .sc (.ptr 2 0 false), .sc (.ptr 3 0 false), .sc (.ptr 4 0 false), .any, .any, .any, .any, .any, .any, .any, .any, .any, .any, .any, .sc (.int .i64), .any, .any, .any, .any, .any, .any, .any, .any, .any, .any, .any, .any, .any, .any, .any, .any, .any, .any, .any, .any, .any, .any, .any, .any, .any, .any, .any, .any, .any, .any, .any, .any, .any, .any, .any, .any, .any, .any, .any, .any, .any, .any, .any, .any, .any, .any, .any, .any, .any, .any, .any, .any, .any, .any, .any], mem := [.live [.xs (.int .u16) (some 256)] true, .live [.xs (.int .u16) (some 256)] true, .live [.xs (.int .u16) (some 256)] true, .live [.xs (.int .u16) (some 128)] true, .live [.xs (.int .u16) (some 256)] true] }
  ks := [.int, .xs, .xs, .xs, .xs, .xs]
  st := fun x => { tmps := [.one .any, .one .any, .one (.sc (.ptr 0 0 none)), .one (.sc (.ptr 1 0 none)), .one (.sc (.ptr 2 0 none)), .one (.sc (.ptr 3 0 none)), .one (.sc (.ptr 4 0 none)), .one .any, .one .any, .one .any, .one .any, .one .any, .one .any, .one .any, .one .any, .one .any, .one .any, .one .any, .one (.sc (.int .i64 x.1)), .one .any, .one .any, .one .any, .one .any, .one .any, .one .any, .one .any, .one .any, .one .any, .one .any, .one .any, .one .any, .one .any, .one .any, .one .any, .one .any, .one .any, .one .any, .one .any, .one .any, .one .any, .one .any, .one .any, .one .any, .one .any, .one .any, .one .any, .one .any, .one .any, .one .any, .one .any, .one .any, .one .any, .one .any, .one .any, .one .any, .one .any, .one .any, .one .any, .one .any, .one .any, .one .any, .one .any, .one .any, .one .any, .one .any, .one .any, .one .any, .one .any, .one .any, .one .any, .one .any, .one .any, .one .any, .one .any], mem := [.live { segs := [.xs (.int .u16) 256 x.2.1], own := true }, .live { segs := [.xs (.int .u16) 256 x.2.2.1], own := true }, .live { segs := [.xs (.int .u16) 256 x.2.2.2.1], own := true }, .live { segs := [.xs (.int .u16) 128 x.2.2.2.2.1], own := true }, .live { segs := [.xs (.int .u16) 256 x.2.2.2.2.2.1], own := true }] }
noncomputable def p_ring_MulNtt_l5_F (N : Nat) (β : Type) (x : (Int × List Int × List Int × List Int × List Int × List Int × Unit)) (kn : (Int × List Int × List Int × List Int × List Int × List Int × Unit) → Option β) (ke : ((List Int × List Int × Unit)) → Option β) : Option β :=
  if (x.1 < (128:Int)) then
    if 0 ≤ x.1 then (
    if x.1 < 128 then (
    if (x.1.toNat) < 128 then (
    if 0 ≤ x.1 then (
    if x.1 < 128 then (
    if (x.1.toNat) < 128 then (
    (g_ring_times ((List.getD x.2.2.2.2.1 (x.1.toNat) 0), (List.getD x.2.2.2.2.1 (x.1.toNat) 0), ())).bind fun r4 => (
    (g_ring_times (r4, (17:Int), ())).bind fun r5 => (
    if 0 ≤ (IntKind.i64.wrap ((2:Int) * x.1)) then (
    if (IntKind.i64.wrap ((2:Int) * x.1)) < 256 then (
    if ((IntKind.i64.wrap ((2:Int) * x.1)).toNat) < 256 then (
    if 0 ≤ (IntKind.i64.wrap ((IntKind.i64.wrap ((2:Int) * x.1)) + (1:Int))) then (
    if (IntKind.i64.wrap ((IntKind.i64.wrap ((2:Int) * x.1)) + (1:Int))) < 256 then (
    if ((IntKind.i64.wrap ((IntKind.i64.wrap ((2:Int) * x.1)) + (1:Int))).toNat) < 256 then (
    if 0 ≤ (IntKind.i64.wrap ((2:Int) * x.1)) then (
    if (IntKind.i64.wrap ((2:Int) * x.1)) < 256 then (
    if ((IntKind.i64.wrap ((2:Int) * x.1)).toNat) < 256 then (
    if 0 ≤ (IntKind.i64.wrap ((IntKind.i64.wrap ((2:Int) * x.1)) + (1:Int))) then (
    if (IntKind.i64.wrap ((IntKind.i64.wrap ((2:Int) * x.1)) + (1:Int))) < 256 then (
    if ((IntKind.i64.wrap ((IntKind.i64.wrap ((2:Int) * x.1)) + (1:Int))).toNat) < 256 then (
    (g_ring_times ((List.getD x.2.1 ((IntKind.i64.wrap ((2:Int) * x.1)).toNat) 0), (List.getD x.2.2.1 ((IntKind.i64.wrap ((2:Int) * x.1)).toNat) 0), ())).bind fun r6 => (
    (g_ring_times ((List.getD x.2.1 ((IntKind.i64.wrap ((IntKind.i64.wrap ((2:Int) * x.1)) + (1:Int))).toNat) 0), (List.getD x.2.2.1 ((IntKind.i64.wrap ((IntKind.i64.wrap ((2:Int) * x.1)) + (1:Int))).toNat) 0), ())).bind fun r7 => (
    (g_ring_times (r7, r5, ())).bind fun r8 => (
    if 0 ≤ (IntKind.i64.wrap ((2:Int) * x.1)) then (
    if (IntKind.i64.wrap ((2:Int) * x.1)) < 256 then (
    if ((IntKind.i64.wrap ((2:Int) * x.1)).toNat) < 256 then (
    (g_ring_times ((List.getD x.2.1 ((IntKind.i64.wrap ((2:Int) * x.1)).toNat) 0), (List.getD x.2.2.1 ((IntKind.i64.wrap ((IntKind.i64.wrap ((2:Int) * x.1)) + (1:Int))).toNat) 0), ())).bind fun r9 => (
    (g_ring_times ((List.getD x.2.1 ((IntKind.i64.wrap ((IntKind.i64.wrap ((2:Int) * x.1)) + (1:Int))).toNat) 0), (List.getD x.2.2.1 ((IntKind.i64.wrap ((2:Int) * x.1)).toNat) 0), ())).bind fun r10 => (
    if 0 ≤ (IntKind.i64.wrap ((IntKind.i64.wrap ((2:Int) * x.1)) + (1:Int))) then (
    if (IntKind.i64.wrap ((IntKind.i64.wrap ((2:Int) * x.1)) + (1:Int))) < 256 then (
    if ((IntKind.i64.wrap ((IntKind.i64.wrap ((2:Int) * x.1)) + (1:Int))).toNat) < 256 then (
    kn ((IntKind.i64.wrap (x.1 + (1:Int))), x.2.1, x.2.2.1, x.2.2.2.1, x.2.2.2.2.1, (List.set (List.set x.2.2.2.2.2.1 ((IntKind.i64.wrap ((2:Int) * x.1)).toNat) (Int.tmod (IntKind.u16.wrap (r6 + r8)) (3329:Int))) ((IntKind.i64.wrap ((IntKind.i64.wrap ((2:Int) * x.1)) + (1:Int))).toNat) (Int.tmod (IntKind.u16.wrap (r9 + r10)) (3329:Int))), ())) else none) else none) else none))) else none) else none) else none)))) else none) else none) else none) else none) else none) else none) else none) else none) else none) else none) else none) else none))) else none) else none) else none) else none) else none) else none
  else
    ke (x.2.2.2.1, x.2.2.2.2.2.1, ())
noncomputable def p_ring_MulNtt_l5_go : Go' ((List Int × List Int × Unit)) := fun y K => K (.exit 0) { tmps := [.one .any, .one .any, .one .any, .one .any, .one (.sc (.ptr 0 0 none)), .one .any, .one (.sc (.ptr 1 0 none)), .one .any, .one .any, .one .any, .one .any, .one .any, .one .any, .one .any, .one .any, .one .any, .one .any, .one .any, .one .any, .one .any, .one .any, .one .any, .one .any, .one .any, .one .any, .one .any, .one .any, .one .any, .one .any, .one .any, .one .any, .one .any, .one .any, .one .any, .one .any, .one .any, .one .any, .one .any, .one .any, .one .any, .one .any, .one .any, .one .any, .one .any, .one .any, .one .any, .one .any, .one .any, .one .any, .one .any, .one .any, .one .any, .one .any, .one .any, .one .any, .one .any, .one .any, .one .any, .one .any, .one .any, .one .any, .one .any, .one .any, .one .any, .one .any, .one .any, .one .any, .one .any, .one .any, .one .any, .one .any, .one .any, .one .any, .one .any], mem := [.live { segs := [.xs (.int .u16) 256 y.1], own := true }, .live { segs := [.xs (.int .u16) 256 y.2.1], own := true }] }
noncomputable def p_ring_MulNtt_l5_L (N : Nat) : LT := upd (LT.nil) 5 (loopE p_ring_MulNtt_l5_S N (p_ring_MulNtt_l5_F N) p_ring_MulNtt_l5_go)
theorem p_ring_MulNtt_l5_ok (N : Nat) : OkAll p_ring_MulNtt_E p_ring_MulNtt_H N (p_ring_MulNtt_l5_L N) (subs p_ring_MulNtt_c) :=
  addLoop (c := theLoop 5 p_ring_MulNtt_c) (OkAll.nil) (by kernel_rfl) (fun x => by kernel_rfl) (fun β x kn ke => by kernel_rfl)
abbrev p_ring_MulNtt_ks : List Kd := [.xs (.int .u16) 256, .xs (.int .u16) 256]
abbrev p_ring_MulNtt_rs : List Kd := [.xs (.int .u16) 256]
noncomputable def p_ring_MulNtt (N : Nat) (x : List Int × List Int × Unit) : Option (List Int) :=
  (g_ring_Reduce (x.1, ())).bind fun r1 => (
  (g_ring_Reduce (x.2.1, ())).bind fun r2 => (
  (g_ring_powers (())).bind fun r3 => (
  iter (p_ring_MulNtt_l5_F N) N ((0:Int), r1, r2, (List.replicate 256 0), r3, (List.replicate 256 0), ()) fun y11 => (
  some y11.2.1))))
theorem p_ring_MulNtt_eq (N : Nat) (x : Ds [.xs (.int .u16) 256, .xs (.int .u16) 256]) : funL p_ring_MulNtt_E p_ring_MulNtt_H (p_ring_MulNtt_l5_L N) N Go.Proofs.Try.f20 p_ring_MulNtt_c [.xs (.int .u16) 256, .xs (.int .u16) 256] [.xs (.int .u16) 256] x = p_ring_MulNtt N x := by kernel_rfl
theorem p_ring_MulNtt_Eok (he_ring_Reduce : SigOk Go.Proofs.Try.prog 37 ⟨[.xs (.int .u16) 256], [.xs (.int .u16) 256], g_ring_Reduce⟩) (he_ring_powers : SigOk Go.Proofs.Try.prog 46 ⟨[], [.xs (.int .u16) 128], g_ring_powers⟩) (he_ring_times : SigOk Go.Proofs.Try.prog 47 ⟨[.int .u16, .int .u16], [.int .u16], g_ring_times⟩) : p_ring_MulNtt_E.Ok Go.Proofs.Try.prog := AE.of_ok (all_cons ty22_ok (all_cons ty24_ok (all_cons ty48_ok all_nil))) (all_cons ⟨he_ring_Reduce, enters_ring_Reduce⟩ (all_cons ⟨he_ring_powers, enters_ring_powers⟩ (all_cons ⟨he_ring_times, enters_ring_times⟩ all_nil)))
theorem p_ring_MulNtt_ok (he_ring_Reduce : SigOk Go.Proofs.Try.prog 37 ⟨[.xs (.int .u16) 256], [.xs (.int .u16) 256], g_ring_Reduce⟩) (he_ring_powers : SigOk Go.Proofs.Try.prog 46 ⟨[], [.xs (.int .u16) 128], g_ring_powers⟩) (he_ring_times : SigOk Go.Proofs.Try.prog 47 ⟨[.int .u16, .int .u16], [.int .u16], g_ring_times⟩) {g : Ds [.xs (.int .u16) 256, .xs (.int .u16) 256] → Option (Rs [.xs (.int .u16) 256])} (hg : ∀ x r, g x = some r → ∃ N, p_ring_MulNtt N x = some r) : SigOk Go.Proofs.Try.prog 20 ⟨[.xs (.int .u16) 256, .xs (.int .u16) 256], [.xs (.int .u16) 256], g⟩ :=
  fun_of (E := p_ring_MulNtt_E) (H := p_ring_MulNtt_H) (L := fun N => p_ring_MulNtt_l5_L N) (c := p_ring_MulNtt_c) (ks := p_ring_MulNtt_ks) (rs := p_ring_MulNtt_rs) (F := p_ring_MulNtt) (p_ring_MulNtt_Eok he_ring_Reduce he_ring_powers he_ring_times) mix Go.Proofs.Try.func20 (by kernel_rfl) (fun N => p_ring_MulNtt_l5_ok N) p_ring_MulNtt_eq hg

/-! livery/liveryref13.MulNtt -/
noncomputable def p_ref13_MulNtt_E : AE := AE.of [(3, ty3), (22, ty22), (24, ty24)] [(48, ⟨[.int .i64], [.int .i64], g_ref13_Root⟩)]
noncomputable def p_ref13_MulNtt_H : Hints := [(3, [2, 3, 4, 5, 11]), (2000000, [4, 5]), (2000001, [2, 3, 4, 5, 11]), (3000000, [4])]
noncomputable def p_ref13_MulNtt_c : Code := (Go.Proofs.Try.f21).body.getD .skip
noncomputable def p_ref13_MulNtt_l3_S : Shape where
  h := { tmps := [.any, .any, .sc (.ptr 0 0 false), .sc (.ptr 1 0 false), .sc (.ptr 2 0 false), .sc (.ptr 3 0 false), .any, .any, .any, .any, .any, .sc (.int .i64), .any, .any, .any, .any, .any, .any, .any, .any, .any, .any, .any, .any, .any, .any, .any, .any, .any, .any, .any, .any, .any, .any, .any, .any, .any, .any, .any, .any, .any, .any, .any, .any, .any, .any, .any, .any, .any, .any, .any, .any, .any, .any, .any, .any, .any, .any, .any, .any, .any, .any, .any, .any, .any, .any, .any, .any, .any, .any, .any], mem := [.live [.xs (.int .u16) (some 256)] true, .live [.xs (.int .u16) (some 256)] true, .live [.xs (.int .u16) (some 256)] true, .live [.xs (.int .u16) (some 256)] true] }
  ks := [.int, .xs, .xs, .xs, .xs]
  st := fun x => { tmps := [.one .any, .one .any, .one (.sc (.ptr 0 0 none)), .one (.sc (.ptr 1 0 none)), .one (.sc (.ptr 2 0 none)), .one (.sc (.ptr 3 0 none)), .one .any, .one .any, .one .any, .one .any, .one .any, .one (.sc (.int .i64 x.1)), .one .any, .one .any, .one .any, .one .any, .one .any, .one .any, .one .any, .one .any, .one .any, .one .any, .one .any, .one .any, .one .any, .one .any, .one .any, .one .any, .one .any, .one .any, .one .any, .one .any, .one .any, .one .any, .one .any, .one .any, .one .any, .one .any, .one .any, .one .any, .one .any, .one .any, .one .any, .one .any, .one .any, .one .any, .one .any, .one .any, .one .any, .one .any, .one .any, .one .any, .one .any, .one .any, .one .any, .one .any, .one .any, .one .any, .one .any, .one .any, .one .any, .one .any, .one .any, .one .any, .one .any, .one .any, .one .any, .one .any, .one .any, .one .any, .one .any], mem := [.live { segs := [.xs (.int .u16) 256 x.2.1], own := true }, .live { segs := [.xs (.int .u16) 256 x.2.2.1], own := true }, .live { segs := [.xs (.int .u16) 256 x.2.2.2.1], own := true }, .live { segs := [.xs (.int .u16) 256 x.2.2.2.2.1], own := true }] }
noncomputable def p_ref13_MulNtt_l3_F (N : Nat) (β : Type) (x : (Int × List Int × List Int × List Int × List Int × Unit)) (kn : (Int × List Int × List Int × List Int × List Int × Unit) → Option β) (ke : ((List Int × List Int × Unit)) → Option β) : Option β :=
  if (x.1 < (128:Int)) then
    if 0 ≤ (IntKind.i64.wrap ((2:Int) * x.1)) then (
    if (IntKind.i64.wrap ((2:Int) * x.1)) < 256 then (
    if ((IntKind.i64.wrap ((2:Int) * x.1)).toNat) < 256 then (
    if 0 ≤ (IntKind.i64.wrap ((IntKind.i64.wrap ((2:Int) * x.1)) + (1:Int))) then (
    if (IntKind.i64.wrap ((IntKind.i64.wrap ((2:Int) * x.1)) + (1:Int))) < 256 then (
    if ((IntKind.i64.wrap ((IntKind.i64.wrap ((2:Int) * x.1)) + (1:Int))).toNat) < 256 then (
    if 0 ≤ (IntKind.i64.wrap ((2:Int) * x.1)) then (
    if (IntKind.i64.wrap ((2:Int) * x.1)) < 256 then (
    if ((IntKind.i64.wrap ((2:Int) * x.1)).toNat) < 256 then (
    if 0 ≤ (IntKind.i64.wrap ((IntKind.i64.wrap ((2:Int) * x.1)) + (1:Int))) then (
    if (IntKind.i64.wrap ((IntKind.i64.wrap ((2:Int) * x.1)) + (1:Int))) < 256 then (
    if ((IntKind.i64.wrap ((IntKind.i64.wrap ((2:Int) * x.1)) + (1:Int))).toNat) < 256 then (
    (g_ref13_Root (x.1, ())).bind fun r1 => (
    if 0 ≤ (IntKind.i64.wrap ((2:Int) * x.1)) then (
    if (IntKind.i64.wrap ((2:Int) * x.1)) < 256 then (
    if ((IntKind.i64.wrap ((2:Int) * x.1)).toNat) < 256 then (
    if 0 ≤ (IntKind.i64.wrap ((IntKind.i64.wrap ((2:Int) * x.1)) + (1:Int))) then (
    if (IntKind.i64.wrap ((IntKind.i64.wrap ((2:Int) * x.1)) + (1:Int))) < 256 then (
    if ((IntKind.i64.wrap ((IntKind.i64.wrap ((2:Int) * x.1)) + (1:Int))).toNat) < 256 then (
    kn ((IntKind.i64.wrap (x.1 + (1:Int))), x.2.1, x.2.2.1, x.2.2.2.1, (List.set (List.set x.2.2.2.2.1 ((IntKind.i64.wrap ((2:Int) * x.1)).toNat) (IntKind.u16.wrap (Int.tmod (IntKind.i64.wrap ((IntKind.i64.wrap ((IntKind.i64.wrap (Int.tmod (List.getD x.2.1 ((IntKind.i64.wrap ((2:Int) * x.1)).toNat) 0) (3329:Int))) * (IntKind.i64.wrap (Int.tmod (List.getD x.2.2.1 ((IntKind.i64.wrap ((2:Int) * x.1)).toNat) 0) (3329:Int))))) + (IntKind.i64.wrap ((Int.tmod (IntKind.i64.wrap ((IntKind.i64.wrap (Int.tmod (List.getD x.2.1 ((IntKind.i64.wrap ((IntKind.i64.wrap ((2:Int) * x.1)) + (1:Int))).toNat) 0) (3329:Int))) * (IntKind.i64.wrap (Int.tmod (List.getD x.2.2.1 ((IntKind.i64.wrap ((IntKind.i64.wrap ((2:Int) * x.1)) + (1:Int))).toNat) 0) (3329:Int))))) (3329:Int)) * r1)))) (3329:Int)))) ((IntKind.i64.wrap ((IntKind.i64.wrap ((2:Int) * x.1)) + (1:Int))).toNat) (IntKind.u16.wrap (Int.tmod (IntKind.i64.wrap ((IntKind.i64.wrap ((IntKind.i64.wrap (Int.tmod (List.getD x.2.1 ((IntKind.i64.wrap ((2:Int) * x.1)).toNat) 0) (3329:Int))) * (IntKind.i64.wrap (Int.tmod (List.getD x.2.2.1 ((IntKind.i64.wrap ((IntKind.i64.wrap ((2:Int) * x.1)) + (1:Int))).toNat) 0) (3329:Int))))) + (IntKind.i64.wrap ((IntKind.i64.wrap (Int.tmod (List.getD x.2.1 ((IntKind.i64.wrap ((IntKind.i64.wrap ((2:Int) * x.1)) + (1:Int))).toNat) 0) (3329:Int))) * (IntKind.i64.wrap (Int.tmod (List.getD x.2.2.1 ((IntKind.i64.wrap ((2:Int) * x.1)).toNat) 0) (3329:Int))))))) (3329:Int)))), ())) else none) else none) else none) else none) else none) else none)) else none) else none) else none) else none) else none) else none) else none) else none) else none) else none) else none) else none
  else
    ke (x.2.2.2.1, x.2.2.2.2.1, ())
noncomputable def p_ref13_MulNtt_l3_go : Go' ((List Int × List Int × Unit)) := fun y K => K (.exit 0) { tmps := [.one .any, .one .any, .one .any, .one .any, .one (.sc (.ptr 0 0 none)), .one (.sc (.ptr 1 0 none)), .one .any, .one .any, .one .any, .one .any, .one .any, .one .any, .one .any, .one .any, .one .any, .one .any, .one .any, .one .any, .one .any, .one .any, .one .any, .one .any, .one .any, .one .any, .one .any, .one .any, .one .any, .one .any, .one .any, .one .any, .one .any, .one .any, .one .any, .one .any, .one .any, .one .any, .one .any, .one .any, .one .any, .one .any, .one .any, .one .any, .one .any, .one .any, .one .any, .one .any, .one .any, .one .any, .one .any, .one .any, .one .any, .one .any, .one .any, .one .any, .one .any, .one .any, .one .any, .one .any, .one .any, .one .any, .one .any, .one .any, .one .any, .one .any, .one .any, .one .any, .one .any, .one .any, .one .any, .one .any, .one .any], mem := [.live { segs := [.xs (.int .u16) 256 y.1], own := true }, .live { segs := [.xs (.int .u16) 256 y.2.1], own := true }] }
noncomputable def p_ref13_MulNtt_l3_L (N : Nat) : LT := upd (LT.nil) 3 (loopE p_ref13_MulNtt_l3_S N (p_ref13_MulNtt_l3_F N) p_ref13_MulNtt_l3_go)
theorem p_ref13_MulNtt_l3_ok (N : Nat) : OkAll p_ref13_MulNtt_E p_ref13_MulNtt_H N (p_ref13_MulNtt_l3_L N) (subs p_ref13_MulNtt_c) :=
  addLoop (c := theLoop 3 p_ref13_MulNtt_c) (OkAll.nil) (by kernel_rfl) (fun x => by kernel_rfl) (fun β x kn ke => by kernel_rfl)
abbrev p_ref13_MulNtt_ks : List Kd := [.xs (.int .u16) 256, .xs (.int .u16) 256]
abbrev p_ref13_MulNtt_rs : List Kd := [.xs (.int .u16) 256]
noncomputable def p_ref13_MulNtt (N : Nat) (x : List Int × List Int × Unit) : Option (List Int) :=
  iter (p_ref13_MulNtt_l3_F N) N ((0:Int), x.1, x.2.1, (List.replicate 256 0), (List.replicate 256 0), ()) fun y2 => (
  some y2.2.1)
theorem p_ref13_MulNtt_eq (N : Nat) (x : Ds [.xs (.int .u16) 256, .xs (.int .u16) 256]) : funL p_ref13_MulNtt_E p_ref13_MulNtt_H (p_ref13_MulNtt_l3_L N) N Go.Proofs.Try.f21 p_ref13_MulNtt_c [.xs (.int .u16) 256, .xs (.int .u16) 256] [.xs (.int .u16) 256] x = p_ref13_MulNtt N x := by kernel_rfl
theorem p_ref13_MulNtt_Eok (he_ref13_Root : SigOk Go.Proofs.Try.prog 48 ⟨[.int .i64], [.int .i64], g_ref13_Root⟩) : p_ref13_MulNtt_E.Ok Go.Proofs.Try.prog := AE.of_ok (all_cons ty3_ok (all_cons ty22_ok (all_cons ty24_ok all_nil))) (all_cons ⟨he_ref13_Root, enters_ref13_Root⟩ all_nil)
theorem p_ref13_MulNtt_ok (he_ref13_Root : SigOk Go.Proofs.Try.prog 48 ⟨[.int .i64], [.int .i64], g_ref13_Root⟩) {g : Ds [.xs (.int .u16) 256, .xs (.int .u16) 256] → Option (Rs [.xs (.int .u16) 256])} (hg : ∀ x r, g x = some r → ∃ N, p_ref13_MulNtt N x = some r) : SigOk Go.Proofs.Try.prog 21 ⟨[.xs (.int .u16) 256, .xs (.int .u16) 256], [.xs (.int .u16) 256], g⟩ :=
  fun_of (E := p_ref13_MulNtt_E) (H := p_ref13_MulNtt_H) (L := fun N => p_ref13_MulNtt_l3_L N) (c := p_ref13_MulNtt_c) (ks := p_ref13_MulNtt_ks) (rs := p_ref13_MulNtt_rs) (F := p_ref13_MulNtt) (p_ref13_MulNtt_Eok he_ref13_Root) mix Go.Proofs.Try.func21 (by kernel_rfl) (fun N => p_ref13_MulNtt_l3_ok N) p_ref13_MulNtt_eq hg

/-! livery/liveryref13.Root -/
noncomputable def p_ref13_Root_E : AE := AE.of [] [(59, ⟨[.int .i64], [.int .i64], g_ref13_rev⟩), (51, ⟨[.int .i64, .int .i64], [.int .i64], g_ref13_power⟩)]
noncomputable def p_ref13_Root_H : Hints := [(3000000, [2])]
noncomputable def p_ref13_Root_c : Code := (Go.Proofs.Try.f48).body.getD .skip
abbrev p_ref13_Root_ks : List Kd := [.int .i64]
abbrev p_ref13_Root_rs : List Kd := [.int .i64]
noncomputable def p_ref13_Root (N : Nat) (x : Int × Unit) : Option (Int) :=
  (g_ref13_rev (x.1, ())).bind fun r1 => (
  (g_ref13_power ((17:Int), (IntKind.i64.wrap ((IntKind.i64.wrap ((2:Int) * r1)) + (1:Int))), ())).bind fun r2 => (
  some r2))
theorem p_ref13_Root_eq (N : Nat) (x : Ds [.int .i64]) : funL p_ref13_Root_E p_ref13_Root_H (LT.nil) N Go.Proofs.Try.f48 p_ref13_Root_c [.int .i64] [.int .i64] x = p_ref13_Root N x := by kernel_rfl
theorem p_ref13_Root_Eok (he_ref13_rev : SigOk Go.Proofs.Try.prog 59 ⟨[.int .i64], [.int .i64], g_ref13_rev⟩) (he_ref13_power : SigOk Go.Proofs.Try.prog 51 ⟨[.int .i64, .int .i64], [.int .i64], g_ref13_power⟩) : p_ref13_Root_E.Ok Go.Proofs.Try.prog := AE.of_ok all_nil (all_cons ⟨he_ref13_rev, enters_ref13_rev⟩ (all_cons ⟨he_ref13_power, enters_ref13_power⟩ all_nil))
theorem p_ref13_Root_ok (he_ref13_rev : SigOk Go.Proofs.Try.prog 59 ⟨[.int .i64], [.int .i64], g_ref13_rev⟩) (he_ref13_power : SigOk Go.Proofs.Try.prog 51 ⟨[.int .i64, .int .i64], [.int .i64], g_ref13_power⟩) {g : Ds [.int .i64] → Option (Rs [.int .i64])} (hg : ∀ x r, g x = some r → ∃ N, p_ref13_Root N x = some r) : SigOk Go.Proofs.Try.prog 48 ⟨[.int .i64], [.int .i64], g⟩ :=
  fun_of (E := p_ref13_Root_E) (H := p_ref13_Root_H) (L := fun N => LT.nil) (c := p_ref13_Root_c) (ks := p_ref13_Root_ks) (rs := p_ref13_Root_rs) (F := p_ref13_Root) (p_ref13_Root_Eok he_ref13_rev he_ref13_power) mix Go.Proofs.Try.func48 (by kernel_rfl) (fun N => OkAll.nil) p_ref13_Root_eq hg

/-! livery/liveryref13.power -/
noncomputable def p_ref13_power_E : AE := AE.of [] []
noncomputable def p_ref13_power_H : Hints := [(3, [0, 5, 6, 7]), (2000000, [5]), (2000001, [0, 5, 6, 7]), (3000000, [4])]
noncomputable def p_ref13_power_c : Code := (Go.Proofs.Try.f51).body.getD .skip
noncomputable def p_ref13_power_l3_S : Shape where
  h := { tmps := [.sc (.int .i64), .any, .any, .any, .any, .sc (.int .i64), .sc (.int .i64), .sc (.int .i64), .any, .any, .any, .any, .any, .any, .any], mem := [] }
  ks := [.int, .int, .int, .int]
  st := fun x => { tmps := [.one (.sc (.int .i64 x.1)), .one .any, .one .any, .one .any, .one .any, .one (.sc (.int .i64 x.2.1)), .one (.sc (.int .i64 x.2.2.1)), .one (.sc (.int .i64 x.2.2.2.1)), .one .any, .one .any, .one .any, .one .any, .one .any, .one .any, .one .any], mem := [] }
noncomputable def p_ref13_power_l3_F (N : Nat) (β : Type) (x : (Int × Int × Int × Int × Unit)) (kn : (Int × Int × Int × Int × Unit) → Option β) (ke : ((Int × Unit)) → Option β) : Option β :=
  if (x.2.2.2.1 < x.2.2.1) then
    kn (x.1, (Int.tmod (IntKind.i64.wrap (x.2.1 * x.1)) (3329:Int)), x.2.2.1, (IntKind.i64.wrap (x.2.2.2.1 + (1:Int))), ())
  else
    ke (x.2.1, ())
noncomputable def p_ref13_power_l3_go : Go' ((Int × Unit)) := fun y K => K (.exit 0) { tmps := [.one .any, .one .any, .one .any, .one .any, .one .any, .one (.sc (.int .i64 y.1)), .one .any, .one .any, .one .any, .one .any, .one .any, .one .any, .one .any, .one .any, .one .any], mem := [] }
noncomputable def p_ref13_power_l3_L (N : Nat) : LT := upd (LT.nil) 3 (loopE p_ref13_power_l3_S N (p_ref13_power_l3_F N) p_ref13_power_l3_go)
theorem p_ref13_power_l3_ok (N : Nat) : OkAll p_ref13_power_E p_ref13_power_H N (p_ref13_power_l3_L N) (subs p_ref13_power_c) :=
  addLoop (c := theLoop 3 p_ref13_power_c) (OkAll.nil) (by kernel_rfl) (fun x => by kernel_rfl) (fun β x kn ke => by kernel_rfl)
abbrev p_ref13_power_ks : List Kd := [.int .i64, .int .i64]
abbrev p_ref13_power_rs : List Kd := [.int .i64]
noncomputable def p_ref13_power (N : Nat) (x : Int × Int × Unit) : Option (Int) :=
  iter (p_ref13_power_l3_F N) N (x.1, (1:Int), x.2.1, (0:Int), ()) fun y1 => (
  some y1.1)
theorem p_ref13_power_eq (N : Nat) (x : Ds [.int .i64, .int .i64]) : funL p_ref13_power_E p_ref13_power_H (p_ref13_power_l3_L N) N Go.Proofs.Try.f51 p_ref13_power_c [.int .i64, .int .i64] [.int .i64] x = p_ref13_power N x := by kernel_rfl
theorem p_ref13_power_Eok : p_ref13_power_E.Ok Go.Proofs.Try.prog := AE.of_ok all_nil all_nil
theorem p_ref13_power_ok {g : Ds [.int .i64, .int .i64] → Option (Rs [.int .i64])} (hg : ∀ x r, g x = some r → ∃ N, p_ref13_power N x = some r) : SigOk Go.Proofs.Try.prog 51 ⟨[.int .i64, .int .i64], [.int .i64], g⟩ :=
  fun_of (E := p_ref13_power_E) (H := p_ref13_power_H) (L := fun N => p_ref13_power_l3_L N) (c := p_ref13_power_c) (ks := p_ref13_power_ks) (rs := p_ref13_power_rs) (F := p_ref13_power) (p_ref13_power_Eok) mix Go.Proofs.Try.func51 (by kernel_rfl) (fun N => p_ref13_power_l3_ok N) p_ref13_power_eq hg

/-! livery/liveryref13.rev -/
noncomputable def p_ref13_rev_E : AE := AE.of [] []
noncomputable def p_ref13_rev_H : Hints := [(3, [0, 3, 4]), (2000000, [3]), (2000001, [0, 3, 4]), (3000000, [2])]
noncomputable def p_ref13_rev_c : Code := (Go.Proofs.Try.f59).body.getD .skip
noncomputable def p_ref13_rev_l3_S : Shape where
  h := { tmps := [.sc (.int .i64), .any, .any, .sc (.int .i64), .sc (.int .i64), .any, .any, .any, .any, .any, .any, .any, .any, .any, .any], mem := [] }
  ks := [.int, .int, .int]
  st := fun x => { tmps := [.one (.sc (.int .i64 x.1)), .one .any, .one .any, .one (.sc (.int .i64 x.2.1)), .one (.sc (.int .i64 x.2.2.1)), .one .any, .one .any, .one .any, .one .any, .one .any, .one .any, .one .any, .one .any, .one .any, .one .any], mem := [] }
noncomputable def p_ref13_rev_l3_F (N : Nat) (β : Type) (x : (Int × Int × Int × Unit)) (kn : (Int × Int × Int × Unit) → Option β) (ke : ((Int × Unit)) → Option β) : Option β :=
  if (x.2.2.1 < (7:Int)) then
    kn ((IntKind.i64.wrap (Int.tdiv x.1 (2:Int))), (IntKind.i64.wrap ((IntKind.i64.wrap ((2:Int) * x.2.1)) + (Int.tmod x.1 (2:Int)))), (IntKind.i64.wrap (x.2.2.1 + (1:Int))), ())
  else
    ke (x.2.1, ())
noncomputable def p_ref13_rev_l3_go : Go' ((Int × Unit)) := fun y K => K (.exit 0) { tmps := [.one .any, .one .any, .one .any, .one (.sc (.int .i64 y.1)), .one .any, .one .any, .one .any, .one .any, .one .any, .one .any, .one .any, .one .any, .one .any, .one .any, .one .any], mem := [] }
noncomputable def p_ref13_rev_l3_L (N : Nat) : LT := upd (LT.nil) 3 (loopE p_ref13_rev_l3_S N (p_ref13_rev_l3_F N) p_ref13_rev_l3_go)
theorem p_ref13_rev_l3_ok (N : Nat) : OkAll p_ref13_rev_E p_ref13_rev_H N (p_ref13_rev_l3_L N) (subs p_ref13_rev_c) :=
  addLoop (c := theLoop 3 p_ref13_rev_c) (OkAll.nil) (by kernel_rfl) (fun x => by kernel_rfl) (fun β x kn ke => by kernel_rfl)
abbrev p_ref13_rev_ks : List Kd := [.int .i64]
abbrev p_ref13_rev_rs : List Kd := [.int .i64]
noncomputable def p_ref13_rev (N : Nat) (x : Int × Unit) : Option (Int) :=
  iter (p_ref13_rev_l3_F N) N (x.1, (0:Int), (0:Int), ()) fun y1 => (
  some y1.1)
theorem p_ref13_rev_eq (N : Nat) (x : Ds [.int .i64]) : funL p_ref13_rev_E p_ref13_rev_H (p_ref13_rev_l3_L N) N Go.Proofs.Try.f59 p_ref13_rev_c [.int .i64] [.int .i64] x = p_ref13_rev N x := by kernel_rfl
theorem p_ref13_rev_Eok : p_ref13_rev_E.Ok Go.Proofs.Try.prog := AE.of_ok all_nil all_nil
theorem p_ref13_rev_ok {g : Ds [.int .i64] → Option (Rs [.int .i64])} (hg : ∀ x r, g x = some r → ∃ N, p_ref13_rev N x = some r) : SigOk Go.Proofs.Try.prog 59 ⟨[.int .i64], [.int .i64], g⟩ :=
  fun_of (E := p_ref13_rev_E) (H := p_ref13_rev_H) (L := fun N => p_ref13_rev_l3_L N) (c := p_ref13_rev_c) (ks := p_ref13_rev_ks) (rs := p_ref13_rev_rs) (F := p_ref13_rev) (p_ref13_rev_Eok) mix Go.Proofs.Try.func59 (by kernel_rfl) (fun N => p_ref13_rev_l3_ok N) p_ref13_rev_eq hg
end Go.Ax.TryP
/-! ### The product of transforms -/
namespace Go.Ax.TryP

theorem rev7_table : ∀ n, n < 128 → rev7 n < 128 := by decide +kernel
theorem rev7_fold (n : Nat) : rev7 n = (List.range 8).foldl (fun s i => 2 * s + n / 2 ^ i % 2) 0 / 2 := rfl
/-- So many digits, from behind. -/
def revTo (n : Nat) : Nat → Nat
  | 0 => 0
  | i + 1 => 2 * revTo n i + n / 2 ^ i % 2
theorem revTo_table : ∀ n, n < 128 → revTo n 7 = rev7 n := by decide +kernel
theorem revTo_bound (n : Nat) : ∀ i, revTo n i < 2 ^ i
  | 0 => by simp [revTo]
  | i + 1 => by have := revTo_bound n i; simp only [revTo, Nat.pow_succ]; omega
theorem q_ref13_rev : ∀ x r, g_ref13_rev x = some r → ∃ N, p_ref13_rev N x = some r := by
  refine Spec_of (ks := p_ref13_rev_ks) (rs := p_ref13_rev_rs) fun x hw hq => ⟨20, ?_⟩
  obtain ⟨(d : Int), u⟩ := x
  have hq : 0 ≤ d ∧ d ≤ 127 := hq
  obtain ⟨n, rfl⟩ := Int.eq_ofNat_of_zero_le hq.1
  have hn : n < 128 := by omega
  unfold p_ref13_rev
  refine Eq.trans ?_ ((iter_run (k := fun (y1 : Int × Unit) => some y1.1) (F := p_ref13_rev_l3_F 20) (s := fun i => (((n / 2 ^ i : Nat) : Int), ((revTo n i : Nat) : Int), (i : Int), ())) (y := ((rev7 n : Int), ())) 7 ?_ ?_ 20 (by omega)).trans (by rfl))
  · rw [Nat.pow_zero, Nat.div_one]; rfl
  · intro i hi kn
    have hb := revTo_bound n i
    have hp : 2 ^ i ≤ 64 := (by decide : ∀ i, i < 7 → 2 ^ i ≤ 64) i hi
    have hd : n / 2 ^ i ≤ n := Nat.div_le_self _ _
    have e1 : ((n / 2 ^ i : Nat) : Int) / 2 = ((n / 2 ^ (i + 1) : Nat) : Int) := by rw [Nat.pow_succ, ← Nat.div_div_eq_div_mul]; omega
    have e2 : 2 * ((revTo n i : Nat) : Int) + ((n / 2 ^ i : Nat) : Int) % 2 = ((revTo n (i + 1) : Nat) : Int) := by simp only [revTo]; omega
    unfold p_ref13_rev_l3_F
    dsimp only
    generalize n / 2 ^ i = m at *
    simp (disch := omega) only [if_pos, wrap_i64, tdiv_pos, tmod_pos]
    rw [e1, e2]
    rfl
  · intro kn
    unfold p_ref13_rev_l3_F
    dsimp only
    rw [if_neg (by decide)]
    rw [revTo_table n hn]
theorem at59 {n : Int} (h : 0 ≤ n ∧ n ≤ 127) : g_ref13_rev (n, ()) = some (rev7 n.toNat : Int) :=
  Spec_at (ks := p_ref13_rev_ks) (rs := p_ref13_rev_rs) (by simp [wfAll, Kd.wf, okInt_i64]; omega) h

theorem q_ref13_power : ∀ x r, g_ref13_power x = some r → ∃ N, p_ref13_power N x = some r := by
  refine Spec_of (ks := p_ref13_power_ks) (rs := p_ref13_power_rs) fun x hw hq => ⟨2000, ?_⟩
  obtain ⟨(b : Int), (e : Int), u⟩ := x
  have hq : (0 ≤ b ∧ b ≤ 3328) ∧ 0 ≤ e ∧ e ≤ 1000 := hq
  obtain ⟨n, rfl⟩ := Int.eq_ofNat_of_zero_le hq.2.1
  have hn : n ≤ 1000 := by omega
  unfold p_ref13_power
  refine Eq.trans ?_ ((iter_run (k := fun (y1 : Int × Unit) => some y1.1) (F := p_ref13_power_l3_F 2000) (s := fun i => (b, b ^ i % 3329, (n : Int), (i : Int), ())) (y := (b ^ n % 3329, ())) n ?_ ?_ 2000 (by omega)).trans (by rfl))
  · rw [Int.pow_zero]; rfl
  · intro i hi kn
    have h0 : 0 ≤ b ^ i % 3329 ∧ b ^ i % 3329 ≤ 3328 := by omega
    have h1 : 0 ≤ b ^ i % 3329 * b := Int.mul_nonneg h0.1 hq.1.1
    have h2 : b ^ i % 3329 * b ≤ 3328 * 3328 := Int.mul_le_mul h0.2 hq.1.2 hq.1.1 (by omega)
    have e1 : b ^ i % 3329 * b % 3329 = b ^ (i + 1) % 3329 := by rw [Int.pow_succ, Int.mul_emod, Int.emod_emod_of_dvd _ (Int.dvd_refl _), ← Int.mul_emod]
    unfold p_ref13_power_l3_F
    simp (disch := omega) only [if_pos, wrap_i64, tmod_pos, e1]
    rfl
  · intro kn
    unfold p_ref13_power_l3_F
    rw [if_neg (by dsimp only; omega)]
theorem at51 {b e : Int} (h : (0 ≤ b ∧ b ≤ 3328) ∧ 0 ≤ e ∧ e ≤ 1000) : g_ref13_power (b, e, ()) = some (b ^ e.toNat % 3329) :=
  Spec_at (ks := p_ref13_power_ks) (rs := p_ref13_power_rs) (by simp [wfAll, Kd.wf, okInt_i64]; omega) h
theorem q_ref13_Root : ∀ x r, g_ref13_Root x = some r → ∃ N, p_ref13_Root N x = some r := by
  refine Spec_of (ks := p_ref13_Root_ks) (rs := p_ref13_Root_rs) fun x hw hq => ⟨0, ?_⟩
  obtain ⟨(d : Int), u⟩ := x
  have hq : 0 ≤ d ∧ d ≤ 127 := hq
  have h7 := rev7_table d.toNat (by omega)
  unfold p_ref13_Root
  refine (congrArg (fun o => Option.bind o _) (at59 hq)).trans ?_
  simp (disch := omega) only [Option.bind_some, wrap_i64, at51]
  unfold root
  rw [show (2 * ((rev7 d.toNat : Nat) : Int) + 1).toNat = 2 * rev7 d.toNat + 1 by omega]
theorem at48 {n : Int} (h : 0 ≤ n ∧ n ≤ 127) : g_ref13_Root (n, ()) = some (root n.toNat) :=
  Spec_at (ks := p_ref13_Root_ks) (rs := p_ref13_Root_rs) (by simp [wfAll, Kd.wf, okInt_i64]; omega) h
theorem root_bound (i : Nat) : 0 ≤ root i ∧ root i ≤ 3328 := by unfold root; omega
theorem emod_mul_left (a b : Int) : a % 3329 * b % 3329 = a * b % 3329 := by rw [Int.mul_emod, Int.emod_emod_of_dvd _ (Int.dvd_refl _), ← Int.mul_emod]
theorem zeta_root (i : Nat) : zeta i * zeta i % 3329 * 17 % 3329 = root i := by
  unfold zeta root
  rw [emod_mul_left, Int.mul_assoc, emod_mul_left, Int.mul_comm (17 ^ rev7 i), Int.mul_assoc, emod_mul_left]
  congr 1
  rw [Int.pow_succ, Nat.two_mul, Int.pow_add, Int.mul_comm 17, Int.mul_assoc]
theorem mul_bound {a b : Int} (ha : 0 ≤ a ∧ a ≤ 3328) (hb : 0 ≤ b ∧ b ≤ 3328) : 0 ≤ a * b ∧ a * b ≤ 11075584 := by
  have h1 : a * b ≤ 3328 * 3328 := Int.mul_le_mul ha.2 hb.2 hb.1 (by omega)
  exact ⟨Int.mul_nonneg ha.1 hb.1, by omega⟩
theorem wf_pp {a b : List Int} : wfAll [.xs (.int .u16) 256, .xs (.int .u16) 256] (a, b, ()) ↔ u16s 256 a ∧ u16s 256 b := by simp [wfAll, wf_u16s]

theorem q_ring_MulNtt : ∀ x r, g_ring_MulNtt x = some r → ∃ N, p_ring_MulNtt N x = some r := by
  refine Spec_of (ks := p_ring_MulNtt_ks) (rs := p_ring_MulNtt_rs) fun x hw _ => ⟨200, ?_⟩
  obtain ⟨(a : List Int), (b : List Int), u⟩ := x
  obtain ⟨ha, hb⟩ := wf_pp.1 hw
  unfold p_ring_MulNtt
  simp only [at37 ha, at37 hb, at46, Option.bind_some]
  refine (iter_run (F := p_ring_MulNtt_l5_F 200) (s := fun i => ((i : Int), fRed a, fRed b, List.replicate 256 0, (List.range 128).map zeta, part (mval a b) (2 * i) (List.replicate 256 0), ())) (y := (List.replicate 256 0, fMulN a b, ())) 128 ?_ ?_ 200 (by omega)).trans ?_
  · intro i hi kn
    have hz := zeta_bound i
    have hzg : ((List.range 128).map zeta).getD i 0 = zeta i := map_range_getD hi
    have e1 : ∀ j, j < 256 → (fRed a).getD j 0 = a.getD j 0 % 3329 := fun j hj => by rw [fRed, poly_getD hj]
    have e2 : ∀ j, j < 256 → (fRed b).getD j 0 = b.getD j 0 % 3329 := fun j hj => by rw [fRed, poly_getD hj]
    have a0 := e1 (2 * i) (by omega)
    have a1 := e1 (2 * i + 1) (by omega)
    have b0 := e2 (2 * i) (by omega)
    have b1 := e2 (2 * i + 1) (by omega)
    have c1 : 2 * (i : Int) = ((2 * i : Nat) : Int) := by omega
    have c2 : ((2 * i : Nat) : Int) + 1 = ((2 * i + 1 : Nat) : Int) := by omega
    have hr := root_bound i
    have m0 : mval a b (2 * i) = ((a.getD (2 * i) 0 % 3329) * (b.getD (2 * i) 0 % 3329) + (a.getD (2 * i + 1) 0 % 3329) * (b.getD (2 * i + 1) 0 % 3329) % 3329 * root i) % 3329 := by
      unfold mval; rw [if_pos (by omega), show 2 * i / 2 = i by omega]
    have m1 : mval a b (2 * i + 1) = ((a.getD (2 * i) 0 % 3329) * (b.getD (2 * i + 1) 0 % 3329) + (a.getD (2 * i + 1) 0 % 3329) * (b.getD (2 * i) 0 % 3329)) % 3329 := by
      unfold mval; rw [if_neg (by omega), show 2 * i + 1 - 1 = 2 * i by omega]
    have ga := fun j => (by omega : 0 ≤ a.getD j 0 % 3329 ∧ a.getD j 0 % 3329 ≤ 3328)
    have gb := fun j => (by omega : 0 ≤ b.getD j 0 % 3329 ∧ b.getD j 0 % 3329 ≤ 3328)
    have t1 := at47 (a := zeta i) (b := zeta i) (by omega) (by omega)
    have t2 := at47 (a := zeta i * zeta i % 3329) (b := 17) (by omega) (by omega)
    rw [zeta_root] at t2
    have x0 := ga (2 * i); have x1 := ga (2 * i + 1); have y0 := gb (2 * i); have y1 := gb (2 * i + 1)
    generalize a.getD (2 * i) 0 % 3329 = A0 at *
    generalize a.getD (2 * i + 1) 0 % 3329 = A1 at *
    generalize b.getD (2 * i) 0 % 3329 = B0 at *
    generalize b.getD (2 * i + 1) 0 % 3329 = B1 at *
    have t3 := at47 (a := A0) (b := B0) (by omega) (by omega)
    have t4 := at47 (a := A1) (b := B1) (by omega) (by omega)
    have t5 := at47 (a := A1 * B1 % 3329) (b := root i) (by omega) (by omega)
    have t6 := at47 (a := A0) (b := B1) (by omega) (by omega)
    have t7 := at47 (a := A1) (b := B0) (by omega) (by omega)
    unfold p_ring_MulNtt_l5_F
    simp (disch := omega) only [if_pos, wrap_i64, c1, c2, Int.toNat_natCast, hzg, a0, a1, b0, b1, t1, t2, t3, t4, t5, t6, t7, Option.bind_some, wrap_u16, tmod_pos]
    rw [part_set' (h := mval a b) (i := 2 * i) (by rw [List.length_replicate]; omega) (by rw [m0]; omega), part_set' (h := mval a b) (i := 2 * i + 1) (by rw [List.length_replicate]; omega) (by rw [m1]; omega)]
    rfl
  · intro kn
    unfold p_ring_MulNtt_l5_F
    dsimp only
    rw [if_neg (by decide)]
    rw [part_all (n := 2 * 128) (by rw [List.length_replicate])]
    rfl
  · rfl
theorem q_ref13_MulNtt : ∀ x r, g_ref13_MulNtt x = some r → ∃ N, p_ref13_MulNtt N x = some r := by
  refine Spec_of (ks := p_ref13_MulNtt_ks) (rs := p_ref13_MulNtt_rs) fun x hw _ => ⟨200, ?_⟩
  obtain ⟨(a : List Int), (b : List Int), u⟩ := x
  obtain ⟨ha, hb⟩ := wf_pp.1 hw
  unfold p_ref13_MulNtt
  refine (iter_run (F := p_ref13_MulNtt_l3_F 200) (s := fun i => ((i : Int), a, b, List.replicate 256 0, part (mval a b) (2 * i) (List.replicate 256 0), ())) (y := (List.replicate 256 0, fMulN a b, ())) 128 ?_ ?_ 200 (by omega)).trans ?_
  · intro i hi kn
    have h0 := ha.at (2 * i); have h1 := ha.at (2 * i + 1); have k0 := hb.at (2 * i); have k1 := hb.at (2 * i + 1)
    have c1 : 2 * (i : Int) = ((2 * i : Nat) : Int) := by omega
    have c2 : ((2 * i : Nat) : Int) + 1 = ((2 * i + 1 : Nat) : Int) := by omega
    have hr := root_bound i
    have m0 : mval a b (2 * i) = ((a.getD (2 * i) 0 % 3329) * (b.getD (2 * i) 0 % 3329) + (a.getD (2 * i + 1) 0 % 3329) * (b.getD (2 * i + 1) 0 % 3329) % 3329 * root i) % 3329 := by
      unfold mval; rw [if_pos (by omega), show 2 * i / 2 = i by omega]
    have m1 : mval a b (2 * i + 1) = ((a.getD (2 * i) 0 % 3329) * (b.getD (2 * i + 1) 0 % 3329) + (a.getD (2 * i + 1) 0 % 3329) * (b.getD (2 * i) 0 % 3329)) % 3329 := by
      unfold mval; rw [if_neg (by omega), show 2 * i + 1 - 1 = 2 * i by omega]
    have z0 := mul_bound (a := a.getD (2 * i) 0 % 3329) (b := b.getD (2 * i) 0 % 3329) (by omega) (by omega)
    have z1 := mul_bound (a := a.getD (2 * i + 1) 0 % 3329) (b := b.getD (2 * i + 1) 0 % 3329) (by omega) (by omega)
    have z2 := mul_bound (a := a.getD (2 * i) 0 % 3329) (b := b.getD (2 * i + 1) 0 % 3329) (by omega) (by omega)
    have z3 := mul_bound (a := a.getD (2 * i + 1) 0 % 3329) (b := b.getD (2 * i) 0 % 3329) (by omega) (by omega)
    have z4 := mul_bound (a := (a.getD (2 * i + 1) 0 % 3329) * (b.getD (2 * i + 1) 0 % 3329) % 3329) (b := root i) (by omega) hr
    have t1 := at48 (n := (i : Int)) (by omega)
    simp only [Int.toNat_natCast] at t1
    unfold p_ref13_MulNtt_l3_F
    simp (disch := omega) only [if_pos, c1, wrap_i64, c2, Int.toNat_natCast, t1, Option.bind_some, tmod_pos, wrap_u16]
    rw [part_set' (h := mval a b) (i := 2 * i) (by rw [List.length_replicate]; omega) m0.symm, part_set' (h := mval a b) (i := 2 * i + 1) (by rw [List.length_replicate]; omega) m1.symm]
    rfl
  · intro kn
    unfold p_ref13_MulNtt_l3_F
    dsimp only
    rw [if_neg (by decide)]
    rw [part_all (n := 2 * 128) (by rw [List.length_replicate])]
    rfl
  · rfl
theorem at20 {a b : List Int} (ha : u16s 256 a) (hb : u16s 256 b) : g_ring_MulNtt (a, b, ()) = some (fMulN a b) := Spec_at (ks := p_ring_MulNtt_ks) (rs := p_ring_MulNtt_rs) (wf_pp.2 ⟨ha, hb⟩) trivial
theorem at21 {a b : List Int} (ha : u16s 256 a) (hb : u16s 256 b) : g_ref13_MulNtt (a, b, ()) = some (fMulN a b) := Spec_at (ks := p_ref13_MulNtt_ks) (rs := p_ref13_MulNtt_rs) (wf_pp.2 ⟨ha, hb⟩) trivial
theorem q_law13_RingPairs : ∀ x r, g_law13_RingPairs x = some r → ∃ N, p_law13_RingPairs N x = some r := by
  refine Spec_of (ks := p_law13_RingPairs_ks) (rs := p_law13_RingPairs_rs) fun x hw _ => ⟨0, ?_⟩
  obtain ⟨(a : List Int), (b : List Int), u⟩ := x
  obtain ⟨ha, hb⟩ := wf_pp.1 hw
  unfold p_law13_RingPairs
  simp only [at18, at20 ha hb, at21 ha hb, Option.bind_some, if_true, decide_true]
theorem s_ref13_rev : SigOk Go.Proofs.Try.prog 59 ⟨p_ref13_rev_ks, p_ref13_rev_rs, g_ref13_rev⟩ := p_ref13_rev_ok q_ref13_rev
theorem s_ref13_power : SigOk Go.Proofs.Try.prog 51 ⟨p_ref13_power_ks, p_ref13_power_rs, g_ref13_power⟩ := p_ref13_power_ok q_ref13_power
theorem s_ref13_Root : SigOk Go.Proofs.Try.prog 48 ⟨p_ref13_Root_ks, p_ref13_Root_rs, g_ref13_Root⟩ := p_ref13_Root_ok s_ref13_rev s_ref13_power q_ref13_Root
theorem s_ring_MulNtt : SigOk Go.Proofs.Try.prog 20 ⟨p_ring_MulNtt_ks, p_ring_MulNtt_rs, g_ring_MulNtt⟩ := p_ring_MulNtt_ok s_ring_Reduce s_ring_powers s_ring_times q_ring_MulNtt
theorem s_ref13_MulNtt : SigOk Go.Proofs.Try.prog 21 ⟨p_ref13_MulNtt_ks, p_ref13_MulNtt_rs, g_ref13_MulNtt⟩ := p_ref13_MulNtt_ok s_ref13_Root q_ref13_MulNtt
theorem s_law13_RingPairs : SigOk Go.Proofs.Try.prog 5 ⟨p_law13_RingPairs_ks, p_law13_RingPairs_rs, g_law13_RingPairs⟩ := p_law13_RingPairs_ok s_law13_live s_ring_MulNtt s_ref13_MulNtt q_law13_RingPairs
end Go.Ax.TryP
/-! ### What is compressed and made longer is near -/
namespace Go.Ax.TryP

def nComp (w r : Nat) : Nat := (2 * r * w + 3329) / (2 * 3329) % w
def nDec (w c : Nat) : Nat := (2 * (c % w) * 3329 + w) / (2 * w)
def nFar (w r : Nat) : Nat := (nDec w (nComp w r) + 3329 - r) % 3329
def nearB (w r : Nat) : Bool := Nat.ble (nFar w r) ((6658 + 2 * w) / (4 * w)) || Nat.ble (3329 - nFar w r) ((6658 + 2 * w) / (4 * w))
theorem near_all : (List.range 12).all (fun d => Nat.beq d 0 || (List.range 3329).all fun r => nearB (2 ^ d) r) = true := by decide +kernel
theorem near_at {d r : Nat} (h0 : 1 ≤ d) (h1 : d ≤ 11) (hr : r < 3329) : nFar (2 ^ d) r ≤ (6658 + 2 * 2 ^ d) / (4 * 2 ^ d) ∨ 3329 - nFar (2 ^ d) r ≤ (6658 + 2 * 2 ^ d) / (4 * 2 ^ d) := by
  have h := List.all_eq_true.1 near_all d (List.mem_range.2 (by omega))
  rw [Bool.or_eq_true] at h
  rcases h with h | h
  · have := Nat.eq_of_beq_eq_true h; omega
  · have := List.all_eq_true.1 h r (List.mem_range.2 hr)
    unfold nearB at this
    rw [Bool.or_eq_true] at this
    exact this.imp Nat.le_of_ble_eq_true Nat.le_of_ble_eq_true

theorem fComp_nat (d r : Nat) (z : Int) (hz : z % 3329 = (r : Int)) : fComp (d : Int) z = ((nComp (2 ^ d) r : Nat) : Int) := by
  unfold fComp nComp
  rw [hz, Int.toNat_natCast]
  simp only [Int.natCast_emod, Int.natCast_ediv, Int.natCast_add, Int.natCast_mul, Int.natCast_pow, Int.cast_ofNat_Int]
theorem fDecomp_nat (d c : Nat) : fDecomp (d : Int) (c : Int) = ((nDec (2 ^ d) c : Nat) : Int) := by
  unfold fDecomp nDec
  rw [Int.toNat_natCast]
  simp only [Int.natCast_emod, Int.natCast_ediv, Int.natCast_add, Int.natCast_mul, Int.natCast_pow, Int.cast_ofNat_Int]
theorem zeros_u16 : u16s 256 zeros := u16s.zero 256
theorem poly_u16 {h : Nat → Int} (hh : ∀ i, i < 256 → 0 ≤ h i ∧ h i ≤ 65535) : u16s 256 (poly h) := u16s.range hh

theorem q_law13_RingNear : ∀ x r, g_law13_RingNear x = some r → ∃ N, p_law13_RingNear N x = some r := by
  refine Spec_of (ks := p_law13_RingNear_ks) (rs := p_law13_RingNear_rs) fun x hw _ => ⟨300, ?_⟩
  obtain ⟨(d : Int), (a : List Int), u⟩ := x
  obtain ⟨hd, ha⟩ := wf_two hw
  unfold p_law13_RingNear
  simp only [at14 hd ha, Option.bind_some]
  by_cases hb : d < 1 ∨ 11 < d
  · have e1 : fCompress d a = (zeros, 1) := by unfold fCompress; rw [if_pos hb]
    simp only [e1, at16 hd zeros_u16, at18, Option.bind_some]
    have e3 : (1 : Int) ≠ 0 := by decide
    rw [if_neg (by simp), if_pos e3, if_pos trivial]
    rcases hb with h | h
    · rw [if_pos h]
    · by_cases h' : d < 1
      · rw [if_pos h']
      · rw [if_neg h']; simp [h]
  obtain ⟨n, rfl⟩ := Int.eq_ofNat_of_zero_le (show 0 ≤ d by omega)
  have hn : 1 ≤ n ∧ n ≤ 11 := by omega
  obtain ⟨p0, p1⟩ := two_pow (d := (n : Int)) (by omega) (by omega)
  rw [Int.toNat_natCast] at p0 p1
  have cb := fun z => fComp_bound (d := (n : Int)) (by omega) (by omega) z
  have db := fun z => fDecomp_bound (d := (n : Int)) (by omega) (by omega) z
  simp only [Int.toNat_natCast] at cb
  have e1 : fCompress (n : Int) a = (poly fun i => fComp n (a.getD i 0), 0) := by unfold fCompress; rw [if_neg hb]
  have hc : u16s 256 (poly fun i => fComp n (a.getD i 0)) := poly_u16 fun i _ => by have := cb (a.getD i 0); omega
  have e2 : fDecompress (n : Int) (poly fun i => fComp n (a.getD i 0)) = (poly fun i => fDecomp n (fComp n (a.getD i 0)), 0) := by
    unfold fDecompress
    rw [if_neg hb]
    have : (poly fun i => fDecomp n ((poly fun i => fComp n (a.getD i 0)).getD i 0)) = poly fun i => fDecomp n (fComp n (a.getD i 0)) := poly_congr fun i hi => by rw [poly_getD hi]
    rw [this]
  have esh : ishl .i64 2 (n : Int) = 2 * 2 ^ n := by
    unfold ishl
    rw [Int.toNat_natCast, Nat.min_eq_left (by simp [IntKind.bits]; omega)]
    exact wrap_i64 (by omega) (by omega)
  have esh1 : ishl .i64 1 (n : Int) = 2 ^ n := by
    unfold ishl
    rw [Int.toNat_natCast, Nat.min_eq_left (by simp [IntKind.bits]; omega)]
    rw [Int.one_mul]
    exact wrap_i64 (by omega) (by omega)
  have hnear := at19 (a := 1) (b := 3329) (c := 2 * 2 ^ n) (by omega) (by omega) (by omega)
  simp (disch := omega) only [e1, at16 hd hc, e2, at18, Option.bind_some, not_true_eq_false, if_false, ne_eq, wrap_u64, if_neg, esh, hnear]
  have hmost : ((6658 + 2 * 2 ^ n) / (4 * 2 ^ n) : Int) = (((6658 + 2 * 2 ^ n) / (4 * 2 ^ n) : Nat) : Int) := by simp only [Int.natCast_ediv, Int.natCast_add, Int.natCast_mul, Int.natCast_pow, Int.cast_ofNat_Int]
  have hm2 : (2 * 1 * 3329 + 2 * 2 ^ n : Int) / (2 * (2 * 2 ^ n)) = (((6658 + 2 * 2 ^ n) / (4 * 2 ^ n) : Nat) : Int) := by
    rw [← hmost]
    congr 1
    omega
  rw [hm2]
  refine Eq.trans (iter_run (F := p_law13_RingNear_l7_F 300) (s := fun i => ((n : Int), (((6658 + 2 * 2 ^ n) / (4 * 2 ^ n) : Nat) : Int), (i : Int), a, (poly fun i => fComp n (a.getD i 0)), (poly fun i => fDecomp n (fComp n (a.getD i 0))), ())) (y := .inr ()) 256 ?_ ?_ 300 (by omega)) ?_
  · intro i hi kn
    have h0 := ha.at i
    have g1 : (poly fun i => fComp n (a.getD i 0)).getD i 0 = fComp n (a.getD i 0) := poly_getD hi
    have g2 : (poly fun i => fDecomp n (fComp n (a.getD i 0))).getD i 0 = fDecomp n (fComp n (a.getD i 0)) := poly_getD hi
    have hcb := cb (a.getD i 0)
    have hdb := db (fComp n (a.getD i 0))
    obtain ⟨r, hr⟩ := Int.eq_ofNat_of_zero_le (show 0 ≤ a.getD i 0 % 3329 by omega)
    have hr2 : r < 3329 := by omega
    have hnr := near_at hn.1 hn.2 hr2
    have hcn := fComp_nat n r (a.getD i 0) hr
    have hdn : fDecomp n (fComp n (a.getD i 0)) = ((nDec (2 ^ n) (nComp (2 ^ n) r) : Nat) : Int) := by rw [hcn, fDecomp_nat]
    have hfar : (((nDec (2 ^ n) (nComp (2 ^ n) r) : Nat) : Int) + 3329 - (r : Int)) % 3329 = ((nFar (2 ^ n) r : Nat) : Int) := by unfold nFar; omega
    rw [hdn] at hdb
    generalize (6658 + 2 * 2 ^ n) / (4 * 2 ^ n) = most at *
    unfold p_law13_RingNear_l7_F
    simp (disch := omega) only [if_pos, wrap_i64, Int.toNat_natCast, g1, g2, tmod_pos, hr, hdn, hfar]
    have hfl : nFar (2 ^ n) r < 3329 := Nat.mod_lt _ (by omega)
    rw [if_neg ?_]
    · simp (disch := omega) only [wrap_u64, if_neg, esh1]
      rfl
    · split <;> omega
  · intro kn
    unfold p_law13_RingNear_l7_F
    dsimp only
    rw [if_neg (by decide)]
  · rfl
theorem s_law13_RingNear : SigOk Go.Proofs.Try.prog 4 ⟨p_law13_RingNear_ks, p_law13_RingNear_rs, g_law13_RingNear⟩ := p_law13_RingNear_ok s_ring_Compress s_ring_Decompress s_law13_live s_ref13_Near q_law13_RingNear
end Go.Ax.TryP
/-! ### The transform's inverse, sums, products -/
namespace Go.Ax.TryP

def ival (s : Nat) (a : List Int) (j : Nat) : Int :=
  if j % (2 * s) < s then (a.getD j 0 + a.getD (j + s) 0) % 3329
  else zeta (2 * (128 / s) - 1 - j / (2 * s)) * ((a.getD j 0 + 3329 - a.getD (j - s) 0) % 3329) % 3329
def iLayer (s : Nat) (a : List Int) : List Int := poly (ival s a)
def iStage (a : List Int) : Nat → List Int
  | 0 => fRed a
  | i + 1 => iLayer (2 * 2 ^ i) (iStage a i)
def fInv (a : List Int) : List Int := poly fun j => (iStage a 7).getD j 0 * 3303 % 3329
noncomputable def g_ring_Inv : List Int × Unit → Option (List Int) := Spec (ks := [.xs (.int .u16) 256]) (rs := [.xs (.int .u16) 256]) (fun _ => True) fun x => fInv x.1
def fAdd (a b : List Int) : List Int := poly fun j => (a.getD j 0 + b.getD j 0) % 3329
def fSub (a b : List Int) : List Int := poly fun j => (a.getD j 0 - b.getD j 0) % 3329
def fMul (a b : List Int) : List Int := fInv (fMulN (fNtt a) (fNtt b))
noncomputable def g_ring_Add : List Int × List Int × Unit → Option (List Int) := Spec (ks := [.xs (.int .u16) 256, .xs (.int .u16) 256]) (rs := [.xs (.int .u16) 256]) (fun _ => True) fun x => fAdd x.1 x.2.1
noncomputable def g_ref13_Add : List Int × List Int × Unit → Option (List Int) := Spec (ks := [.xs (.int .u16) 256, .xs (.int .u16) 256]) (rs := [.xs (.int .u16) 256]) (fun _ => True) fun x => fAdd x.1 x.2.1
noncomputable def g_ring_Sub : List Int × List Int × Unit → Option (List Int) := Spec (ks := [.xs (.int .u16) 256, .xs (.int .u16) 256]) (rs := [.xs (.int .u16) 256]) (fun _ => True) fun x => fSub x.1 x.2.1
noncomputable def g_ref13_Sub : List Int × List Int × Unit → Option (List Int) := Spec (ks := [.xs (.int .u16) 256, .xs (.int .u16) 256]) (rs := [.xs (.int .u16) 256]) (fun _ => True) fun x => fSub x.1 x.2.1
noncomputable def g_ring_Mul : List Int × List Int × Unit → Option (List Int) := Spec (ks := [.xs (.int .u16) 256, .xs (.int .u16) 256]) (rs := [.xs (.int .u16) 256]) (fun _ => True) fun x => fMul x.1 x.2.1
noncomputable def g_law13_RingTurns : List Int × List Int × Unit → Option Bool := Spec (ks := [.xs (.int .u16) 256, .xs (.int .u16) 256]) (rs := [.bool]) (fun _ => True) fun _ => true
noncomputable def g_law13_RingLaws : List Int × List Int × List Int × Unit → Option Bool := Spec (ks := [.xs (.int .u16) 256, .xs (.int .u16) 256, .xs (.int .u16) 256]) (rs := [.bool]) (fun _ => True) fun _ => true
end Go.Ax.TryP
/-! Printed by program (gen.py). -/
set_option linter.unusedVariables false
namespace Go.Ax.TryP
/-! livery/ring.Inv -/
noncomputable def p_ring_Inv_E : AE := AE.of [(22, ty22), (24, ty24), (48, ty48)] [(37, ⟨[.xs (.int .u16) 256], [.xs (.int .u16) 256], g_ring_Reduce⟩), (46, ⟨[], [.xs (.int .u16) 128], g_ring_powers⟩), (47, ⟨[.int .u16, .int .u16], [.int .u16], g_ring_times⟩)]
noncomputable def p_ring_Inv_H : Hints := [(5, [1, 2, 3, 4, 5]), (8, [1, 2, 3, 4, 5, 6]), (11, [1, 2, 3, 4, 5, 6, 7]), (17, [1, 2, 61]), (2000000, [1, 2]), (2000001, [1, 2, 3, 4, 5]), (2000002, [1, 2, 3, 4, 5]), (2000003, [1, 2, 3, 4, 5, 6]), (2000004, [1, 2, 3, 4, 5, 6]), (2000005, [1, 2, 3, 4, 5, 6, 7]), (2000006, [1, 2]), (2000007, [1, 2, 61]), (3000000, [2])]
noncomputable def p_ring_Inv_c : Code := (Go.Proofs.Try.f26).body.getD .skip
noncomputable def p_ring_Inv_l11_S : Shape where
  h := { tmps := [.any, .sc (.ptr 0 0 false), .sc (.ptr 1 0 false), .sc (.ptr 2 0 false), .sc (.int .i64), .sc (.int .i64), .sc (.int .i64), .sc (.int .i64), .any, .any, .any, .any, .any, .any, .any, .any, .any, .any, .any, .any, .any, .any, .any, .any, .any, .any, .any, .any, .any, .any, .any, .any, .any, .any, .any, .any, .any, .any, .any, .any, .any, .any, .any, .any, .any, .any, .any, .any, .any, .any, .any, .any, .any, .any, .any, .any, .any, .any, .any, .any, .any, .any, .any, .any, .any, .any, .any, .any, .any, .any, .any, .any], mem := [.live [.xs (.int .u16) (some 256)] true, .live [.xs (.int .u16) (some 256)] true, .live [.xs (.int .u16) (some 128)] true] }
  ks := [.int, .int, .int, .int, .xs, .xs, .xs]
  st := fun x => { tmps := [.one .any, .one (.sc (.ptr 0 0 none)), .one (.sc (.ptr 1 0 none)), .one (.sc (.ptr 2 0 none)), .one (.sc (.int .i64 x.1)), .one (.sc (.int .i64 x.2.1)), .one (.sc (.int .i64 x.2.2.1)), .one (.sc (.int .i64 x.2.2.2.1)), .one .any, .one .any, .one .any, .one .any, .one .any, .one .any, .one .any, .one .any, .one .any, .one .any, .one .any, .one .any, .one .any, .one .any, .one .any, .one .any, .one .any, .one .any, .one .any, .one .any, .one .any, .one .any, .one .any, .one .any, .one .any, .one .any, .one .any, .one .any, .one .any, .one .any, .one .any, .one .any, .one .any, .one .any, .one .any, .one .any, .one .any, .one .any, .one .any, .one .any, .one .any, .one .any, .one .any, .one .any, .one .any, .one .any, .one .any, .one .any, .one .any, .one .any, .one .any, .one .any, .one .any, .one .any, .one .any, .one .any, .one .any, .one .any, .one .any, .one .any, .one .any, .one .any, .one .any, .one .any], mem := [.live { segs := [.xs (.int .u16) 256 x.2.2.2.2.1], own := true }, .live { segs := [.xs (.int .u16) 256 x.2.2.2.2.2.1], own := true }, .live { segs := [.xs (.int .u16) 128 x.2.2.2.2.2.2.1], own := true }] }
noncomputable def p_ring_Inv_l11_F (N : Nat) (β : Type) (x : (Int × Int × Int × Int × List Int × List Int × List Int × Unit)) (kn : (Int × Int × Int × Int × List Int × List Int × List Int × Unit) → Option β) (ke : ((Int × Int × Int × List Int × List Int × List Int × Unit)) → Option β) : Option β :=
  if (x.2.2.2.1 < (IntKind.i64.wrap (x.2.2.1 + x.2.1))) then
    if 0 ≤ x.2.2.2.1 then (
    if x.2.2.2.1 < 256 then (
    if (x.2.2.2.1.toNat) < 256 then (
    if 0 ≤ (IntKind.i64.wrap (x.2.2.2.1 + x.2.1)) then (
    if (IntKind.i64.wrap (x.2.2.2.1 + x.2.1)) < 256 then (
    if ((IntKind.i64.wrap (x.2.2.2.1 + x.2.1)).toNat) < 256 then (
    if 0 ≤ x.1 then (
    if x.1 < 128 then (
    if (x.1.toNat) < 128 then (
    (g_ring_times ((List.getD x.2.2.2.2.2.2.1 (x.1.toNat) 0), (Int.tmod (IntKind.u16.wrap ((IntKind.u16.wrap ((List.getD x.2.2.2.2.1 ((IntKind.i64.wrap (x.2.2.2.1 + x.2.1)).toNat) 0) + (3329:Int))) - (List.getD x.2.2.2.2.1 (x.2.2.2.1.toNat) 0))) (3329:Int)), ())).bind fun r3 => (
    if 0 ≤ x.2.2.2.1 then (
    if x.2.2.2.1 < 256 then (
    if (x.2.2.2.1.toNat) < 256 then (
    if 0 ≤ (IntKind.i64.wrap (x.2.2.2.1 + x.2.1)) then (
    if (IntKind.i64.wrap (x.2.2.2.1 + x.2.1)) < 256 then (
    if ((IntKind.i64.wrap (x.2.2.2.1 + x.2.1)).toNat) < 256 then (
    kn (x.1, x.2.1, x.2.2.1, (IntKind.i64.wrap (x.2.2.2.1 + (1:Int))), (List.set (List.set x.2.2.2.2.1 (x.2.2.2.1.toNat) (Int.tmod (IntKind.u16.wrap ((List.getD x.2.2.2.2.1 (x.2.2.2.1.toNat) 0) + (List.getD x.2.2.2.2.1 ((IntKind.i64.wrap (x.2.2.2.1 + x.2.1)).toNat) 0))) (3329:Int))) ((IntKind.i64.wrap (x.2.2.2.1 + x.2.1)).toNat) r3), x.2.2.2.2.2.1, x.2.2.2.2.2.2.1, ())) else none) else none) else none) else none) else none) else none)) else none) else none) else none) else none) else none) else none) else none) else none) else none
  else
    ke (x.1, x.2.1, x.2.2.1, x.2.2.2.2.1, x.2.2.2.2.2.1, x.2.2.2.2.2.2.1, ())
noncomputable def p_ring_Inv_l11_go : Go' ((Int × Int × Int × List Int × List Int × List Int × Unit)) := fun y K => K (.exit 4) { tmps := [.one .any, .one (.sc (.ptr 0 0 none)), .one (.sc (.ptr 1 0 none)), .one (.sc (.ptr 2 0 none)), .one (.sc (.int .i64 y.1)), .one (.sc (.int .i64 y.2.1)), .one (.sc (.int .i64 y.2.2.1)), .one .any, .one .any, .one .any, .one .any, .one .any, .one .any, .one .any, .one .any, .one .any, .one .any, .one .any, .one .any, .one .any, .one .any, .one .any, .one .any, .one .any, .one .any, .one .any, .one .any, .one .any, .one .any, .one .any, .one .any, .one .any, .one .any, .one .any, .one .any, .one .any, .one .any, .one .any, .one .any, .one .any, .one .any, .one .any, .one .any, .one .any, .one .any, .one .any, .one .any, .one .any, .one .any, .one .any, .one .any, .one .any, .one .any, .one .any, .one .any, .one .any, .one .any, .one .any, .one .any, .one .any, .one .any, .one .any, .one .any, .one .any, .one .any, .one .any, .one .any, .one .any, .one .any, .one .any, .one .any, .one .any], mem := [.live { segs := [.xs (.int .u16) 256 y.2.2.2.1], own := true }, .live { segs := [.xs (.int .u16) 256 y.2.2.2.2.1], own := true }, .live { segs := [.xs (.int .u16) 128 y.2.2.2.2.2.1], own := true }] }
noncomputable def p_ring_Inv_l11_L (N : Nat) : LT := upd (LT.nil) 11 (loopE p_ring_Inv_l11_S N (p_ring_Inv_l11_F N) p_ring_Inv_l11_go)
theorem p_ring_Inv_l11_ok (N : Nat) : OkAll p_ring_Inv_E p_ring_Inv_H N (p_ring_Inv_l11_L N) (subs p_ring_Inv_c) :=
  addLoop (c := theLoop 11 p_ring_Inv_c) (OkAll.nil) (by kernel_rfl) (fun x => by kernel_rfl) (fun β x kn ke => by kernel_rfl)
noncomputable def p_ring_Inv_l8_S : Shape where
  h := { tmps := [.any, .sc (.ptr 0 0 false), .sc (.ptr 1 0 false), .sc (.ptr 2 0 false), .sc (.int .i64), .sc (.int .i64), .sc (.int .i64), .any, .any, .any, .any, .any, .any, .any, .any, .any, .any, .any, .any, .any, .any, .any, .any, .any, .any, .any, .any, .any, .any, .any, .any, .any, .any, .any, .any, .any, .any, .any, .any, .any, .any, .any, .any, .any, .any, .any, .any, .any, .any, .any, .any, .any, .any, .any, .any, .any, .any, .any, .any, .any, .any, .any, .any, .any, .any, .any, .any, .any, .any, .any, .any, .any], mem := [.live [.xs (.int .u16) (some 256)] true, .live [.xs (.int .u16) (some 256)] true, .live [.xs (.int .u16) (some 128)] true] }
  ks := [.int, .int, .int, .xs, .xs, .xs]
  st := fun x => { tmps := [.one .any, .one (.sc (.ptr 0 0 none)), .one (.sc (.ptr 1 0 none)), .one (.sc (.ptr 2 0 none)), .one (.sc (.int .i64 x.1)), .one (.sc (.int .i64 x.2.1)), .one (.sc (.int .i64 x.2.2.1)), .one .any, .one .any, .one .any, .one .any, .one .any, .one .any, .one .any, .one .any, .one .any, .one .any, .one .any, .one .any, .one .any, .one .any, .one .any, .one .any, .one .any, .one .any, .one .any, .one .any, .one .any, .one .any, .one .any, .one .any, .one .any, .one .any, .one .any, .one .any, .one .any, .one .any, .one .any, .one .any, .one .any, .one .any, .one .any, .one .any, .one .any, .one .any, .one .any, .one .any, .one .any, .one .any, .one .any, .one .any, .one .any, .one .any, .one .any, .one .any, .one .any, .one .any, .one .any, .one .any, .one .any, .one .any, .one .any, .one .any, .one .any, .one .any, .one .any, .one .any, .one .any, .one .any, .one .any, .one .any, .one .any], mem := [.live { segs := [.xs (.int .u16) 256 x.2.2.2.1], own := true }, .live { segs := [.xs (.int .u16) 256 x.2.2.2.2.1], own := true }, .live { segs := [.xs (.int .u16) 128 x.2.2.2.2.2.1], own := true }] }
noncomputable def p_ring_Inv_l8_F (N : Nat) (β : Type) (x : (Int × Int × Int × List Int × List Int × List Int × Unit)) (kn : (Int × Int × Int × List Int × List Int × List Int × Unit) → Option β) (ke : ((Int × Int × List Int × List Int × List Int × Unit)) → Option β) : Option β :=
  if (x.2.2.1 < (256:Int)) then
    iter (p_ring_Inv_l11_F N) N (x.1, x.2.1, x.2.2.1, x.2.2.1, x.2.2.2.1, x.2.2.2.2.1, x.2.2.2.2.2.1, ()) fun y4 => (
    kn ((IntKind.i64.wrap (y4.1 - (1:Int))), y4.2.1, (IntKind.i64.wrap (y4.2.2.1 + (IntKind.i64.wrap ((2:Int) * y4.2.1)))), y4.2.2.2.1, y4.2.2.2.2.1, y4.2.2.2.2.2.1, ()))
  else
    ke (x.1, x.2.1, x.2.2.2.1, x.2.2.2.2.1, x.2.2.2.2.2.1, ())
noncomputable def p_ring_Inv_l8_go : Go' ((Int × Int × List Int × List Int × List Int × Unit)) := fun y K => K (.exit 2) { tmps := [.one .any, .one (.sc (.ptr 0 0 none)), .one (.sc (.ptr 1 0 none)), .one (.sc (.ptr 2 0 none)), .one (.sc (.int .i64 y.1)), .one (.sc (.int .i64 y.2.1)), .one .any, .one .any, .one .any, .one .any, .one .any, .one .any, .one .any, .one .any, .one .any, .one .any, .one .any, .one .any, .one .any, .one .any, .one .any, .one .any, .one .any, .one .any, .one .any, .one .any, .one .any, .one .any, .one .any, .one .any, .one .any, .one .any, .one .any, .one .any, .one .any, .one .any, .one .any, .one .any, .one .any, .one .any, .one .any, .one .any, .one .any, .one .any, .one .any, .one .any, .one .any, .one .any, .one .any, .one .any, .one .any, .one .any, .one .any, .one .any, .one .any, .one .any, .one .any, .one .any, .one .any, .one .any, .one .any, .one .any, .one .any, .one .any, .one .any, .one .any, .one .any, .one .any, .one .any, .one .any, .one .any, .one .any], mem := [.live { segs := [.xs (.int .u16) 256 y.2.2.1], own := true }, .live { segs := [.xs (.int .u16) 256 y.2.2.2.1], own := true }, .live { segs := [.xs (.int .u16) 128 y.2.2.2.2.1], own := true }] }
noncomputable def p_ring_Inv_l8_L (N : Nat) : LT := upd (p_ring_Inv_l11_L N) 8 (loopE p_ring_Inv_l8_S N (p_ring_Inv_l8_F N) p_ring_Inv_l8_go)
theorem p_ring_Inv_l8_ok (N : Nat) : OkAll p_ring_Inv_E p_ring_Inv_H N (p_ring_Inv_l8_L N) (subs p_ring_Inv_c) :=
  addLoop (c := theLoop 8 p_ring_Inv_c) (p_ring_Inv_l11_ok N) (by kernel_rfl) (fun x => by kernel_rfl) (fun β x kn ke => by kernel_rfl)
noncomputable def p_ring_Inv_l5_S : Shape where
  h := { tmps := [.any, .sc (.ptr 0 0 false), .sc (.ptr 1 0 false), .sc (.ptr 2 0 false), .sc (.int .i64), .sc (.int .i64), .any, .any, .any, .any, .any, .any, .any, .any, .any, .any, .any, .any, .any, .any, .any, .any, .any, .any, .any, .any, .any, .any, .any, .any, .any, .any, .any, .any, .any, .any, .any, .any, .any, .any, .any, .any, .any, .any, .any, .any, .any, .any, .any, .any, .any, .any, .any, .any, .any, .any, .any, .any, .any, .any, .any, .any, .any, .any, .any, .any, .any, .any, .any, .any, .any, .any], mem := [.live [.xs (.int .u16) (some 256)] true, .live [.xs (.int .u16) (some 256)] true, .live [.xs (.int .u16) (some 128)] true] }
  ks := [.int, .int, .xs, .xs, .xs]
  st := fun x => { tmps := [.one .any, .one (.sc (.ptr 0 0 none)), .one (.sc (.ptr 1 0 none)), .one (.sc (.ptr 2 0 none)), .one (.sc (.int .i64 x.1)), .one (.sc (.int .i64 x.2.1)), .one .any, .one .any, .one .any, .one .any, .one .any, .one .any, .one .any, .one .any, .one .any, .one .any, .one .any, .one .any, .one .any, .one .any, .one .any, .one .any, .one .any, .one .any, .one .any, .one .any, .one .any, .one .any, .one .any, .one .any, .one .any, .one .any, .one .any, .one .any, .one .any, .one .any, .one .any, .one .any, .one .any, .one .any, .one .any, .one .any, .one .any, .one .any, .one .any, .one .any, .one .any, .one .any, .one .any, .one .any, .one .any, .one .any, .one .any, .one .any, .one .any, .one .any, .one .any, .one .any, .one .any, .one .any, .one .any, .one .any, .one .any, .one .any, .one .any, .one .any, .one .any, .one .any, .one .any, .one .any, .one .any, .one .any], mem := [.live { segs := [.xs (.int .u16) 256 x.2.2.1], own := true }, .live { segs := [.xs (.int .u16) 256 x.2.2.2.1], own := true }, .live { segs := [.xs (.int .u16) 128 x.2.2.2.2.1], own := true }] }
noncomputable def p_ring_Inv_l5_F (N : Nat) (β : Type) (x : (Int × Int × List Int × List Int × List Int × Unit)) (kn : (Int × Int × List Int × List Int × List Int × Unit) → Option β) (ke : ((List Int × List Int × Unit)) → Option β) : Option β :=
  if (x.2.1 ≤ (128:Int)) then
    iter (p_ring_Inv_l8_F N) N (x.1, x.2.1, (0:Int), x.2.2.1, x.2.2.2.1, x.2.2.2.2.1, ()) fun y5 => (
    kn (y5.1, (IntKind.i64.wrap (y5.2.1 * (2:Int))), y5.2.2.1, y5.2.2.2.1, y5.2.2.2.2.1, ()))
  else
    ke (x.2.2.1, x.2.2.2.1, ())
noncomputable def p_ring_Inv_l5_go : Go' ((List Int × List Int × Unit)) := fun y K => K (.exit 0) { tmps := [.one .any, .one (.sc (.ptr 0 0 none)), .one (.sc (.ptr 1 0 none)), .one .any, .one .any, .one .any, .one .any, .one .any, .one .any, .one .any, .one .any, .one .any, .one .any, .one .any, .one .any, .one .any, .one .any, .one .any, .one .any, .one .any, .one .any, .one .any, .one .any, .one .any, .one .any, .one .any, .one .any, .one .any, .one .any, .one .any, .one .any, .one .any, .one .any, .one .any, .one .any, .one .any, .one .any, .one .any, .one .any, .one .any, .one .any, .one .any, .one .any, .one .any, .one .any, .one .any, .one .any, .one .any, .one .any, .one .any, .one .any, .one .any, .one .any, .one .any, .one .any, .one .any, .one .any, .one .any, .one .any, .one .any, .one .any, .one .any, .one .any, .one .any, .one .any, .one .any, .one .any, .one .any, .one .any, .one .any, .one .any, .one .any], mem := [.live { segs := [.xs (.int .u16) 256 y.1], own := true }, .live { segs := [.xs (.int .u16) 256 y.2.1], own := true }] }
noncomputable def p_ring_Inv_l5_L (N : Nat) : LT := upd (p_ring_Inv_l8_L N) 5 (loopE p_ring_Inv_l5_S N (p_ring_Inv_l5_F N) p_ring_Inv_l5_go)
theorem p_ring_Inv_l5_ok (N : Nat) : OkAll p_ring_Inv_E p_ring_Inv_H N (p_ring_Inv_l5_L N) (subs p_ring_Inv_c) :=
  addLoop (c := theLoop 5 p_ring_Inv_c) (p_ring_Inv_l8_ok N) (by kernel_rfl) (fun x => by kernel_rfl) (fun β x kn ke => by kernel_rfl)
noncomputable def p_ring_Inv_l17_S : Shape where
  h := { tmps := [.any, .sc (.ptr 0 0 false), .sc (.ptr 1 0 false), .any, .any, .any, .any, .any, .any, .any, .any, .any, .any, .any, .any, .any, .any, .any, .any, .any, .any, .any, .any, .any, .any, .any, .any, .any, .any, .any, .any, .any, .any, .any, .any, .any, .any, .any, .any, .any, .any, .any, .any, .any, .any, .any, .any, .any, .any, .any, .any, .any, .any, .any, .any, .any, .any, .any, .any, .any, .any, .sc (.int .i64), .any, .any, .any, .any, .any, .any, .any, .any, .any, .any], mem := [.live [.xs (.int .u16) (some 256)] true, .live [.xs (.int .u16) (some 256)] true] }
  ks := [.int, .xs, .xs]
  st := fun x => { tmps := [.one .any, .one (.sc (.ptr 0 0 none)), .one (.sc (.ptr 1 0 none)), .one .any, .one .any, .one .any, .one .any, .one .any, .one .any, .one .any, .one .any, .one .any, .one .any, .one .any, .one .any, .one .any, .one .any, .one .any, .one .any, .one .any, .one .any, .one .any, .one .any, .one .any, .one .any, .one .any, .one .any, .one .any, .one .any, .one .any, .one .any, .one .any, .one .any, .one .any, .one .any, .one .any, .one .any, .one .any, .one .any, .one .any, .one .any, .one .any, .one .any, .one .any, .one .any, .one .any, .one .any, .one .any, .one .any, .one .any, .one .any, .one .any, .one .any, .one .any, .one .any, .one .any, .one .any, .one .any, .one .any, .one .any, .one .any, .one (.sc (.int .i64 x.1)), .one .any, .one .any, .one .any, .one .any, .one .any, .one .any, .one .any, .one .any, .one .any, .one .any], mem := [.live { segs := [.xs (.int .u16) 256 x.2.1], own := true }, .live { segs := [.xs (.int .u16) 256 x.2.2.1], own := true }] }
noncomputable def p_ring_Inv_l17_F (N : Nat) (β : Type) (x : (Int × List Int × List Int × Unit)) (kn : (Int × List Int × List Int × Unit) → Option β) (ke : ((List Int × List Int × Unit)) → Option β) : Option β :=
  if (x.1 < (256:Int)) then
    if 0 ≤ x.1 then (
    if x.1 < 256 then (
    if (x.1.toNat) < 256 then (
    (g_ring_times ((List.getD x.2.1 (x.1.toNat) 0), (3303:Int), ())).bind fun r7 => (
    if 0 ≤ x.1 then (
    if x.1 < 256 then (
    if (x.1.toNat) < 256 then (
    kn ((IntKind.i64.wrap (x.1 + (1:Int))), (List.set x.2.1 (x.1.toNat) r7), x.2.2.1, ())) else none) else none) else none)) else none) else none) else none
  else
    ke (x.2.1, x.2.2.1, ())
noncomputable def p_ring_Inv_l17_go : Go' ((List Int × List Int × Unit)) := fun y K => K (.exit 6) { tmps := [.one .any, .one (.sc (.ptr 0 0 none)), .one (.sc (.ptr 1 0 none)), .one .any, .one .any, .one .any, .one .any, .one .any, .one .any, .one .any, .one .any, .one .any, .one .any, .one .any, .one .any, .one .any, .one .any, .one .any, .one .any, .one .any, .one .any, .one .any, .one .any, .one .any, .one .any, .one .any, .one .any, .one .any, .one .any, .one .any, .one .any, .one .any, .one .any, .one .any, .one .any, .one .any, .one .any, .one .any, .one .any, .one .any, .one .any, .one .any, .one .any, .one .any, .one .any, .one .any, .one .any, .one .any, .one .any, .one .any, .one .any, .one .any, .one .any, .one .any, .one .any, .one .any, .one .any, .one .any, .one .any, .one .any, .one .any, .one .any, .one .any, .one .any, .one .any, .one .any, .one .any, .one .any, .one .any, .one .any, .one .any, .one .any], mem := [.live { segs := [.xs (.int .u16) 256 y.1], own := true }, .live { segs := [.xs (.int .u16) 256 y.2.1], own := true }] }
noncomputable def p_ring_Inv_l17_L (N : Nat) : LT := upd (p_ring_Inv_l5_L N) 17 (loopE p_ring_Inv_l17_S N (p_ring_Inv_l17_F N) p_ring_Inv_l17_go)
theorem p_ring_Inv_l17_ok (N : Nat) : OkAll p_ring_Inv_E p_ring_Inv_H N (p_ring_Inv_l17_L N) (subs p_ring_Inv_c) :=
  addLoop (c := theLoop 17 p_ring_Inv_c) (p_ring_Inv_l5_ok N) (by kernel_rfl) (fun x => by kernel_rfl) (fun β x kn ke => by kernel_rfl)
abbrev p_ring_Inv_ks : List Kd := [.xs (.int .u16) 256]
abbrev p_ring_Inv_rs : List Kd := [.xs (.int .u16) 256]
noncomputable def p_ring_Inv (N : Nat) (x : List Int × Unit) : Option (List Int) :=
  (g_ring_Reduce (x.1, ())).bind fun r1 => (
  (g_ring_powers (())).bind fun r2 => (
  iter (p_ring_Inv_l5_F N) N ((127:Int), (2:Int), r1, (List.replicate 256 0), r2, ()) fun y6 => (
  iter (p_ring_Inv_l17_F N) N ((0:Int), y6.1, y6.2.1, ()) fun y8 => (
  some y8.1))))
theorem p_ring_Inv_eq (N : Nat) (x : Ds [.xs (.int .u16) 256]) : funL p_ring_Inv_E p_ring_Inv_H (p_ring_Inv_l17_L N) N Go.Proofs.Try.f26 p_ring_Inv_c [.xs (.int .u16) 256] [.xs (.int .u16) 256] x = p_ring_Inv N x := by kernel_rfl
theorem p_ring_Inv_Eok (he_ring_Reduce : SigOk Go.Proofs.Try.prog 37 ⟨[.xs (.int .u16) 256], [.xs (.int .u16) 256], g_ring_Reduce⟩) (he_ring_powers : SigOk Go.Proofs.Try.prog 46 ⟨[], [.xs (.int .u16) 128], g_ring_powers⟩) (he_ring_times : SigOk Go.Proofs.Try.prog 47 ⟨[.int .u16, .int .u16], [.int .u16], g_ring_times⟩) : p_ring_Inv_E.Ok Go.Proofs.Try.prog := AE.of_ok (all_cons ty22_ok (all_cons ty24_ok (all_cons ty48_ok all_nil))) (all_cons ⟨he_ring_Reduce, enters_ring_Reduce⟩ (all_cons ⟨he_ring_powers, enters_ring_powers⟩ (all_cons ⟨he_ring_times, enters_ring_times⟩ all_nil)))
theorem p_ring_Inv_ok (he_ring_Reduce : SigOk Go.Proofs.Try.prog 37 ⟨[.xs (.int .u16) 256], [.xs (.int .u16) 256], g_ring_Reduce⟩) (he_ring_powers : SigOk Go.Proofs.Try.prog 46 ⟨[], [.xs (.int .u16) 128], g_ring_powers⟩) (he_ring_times : SigOk Go.Proofs.Try.prog 47 ⟨[.int .u16, .int .u16], [.int .u16], g_ring_times⟩) {g : Ds [.xs (.int .u16) 256] → Option (Rs [.xs (.int .u16) 256])} (hg : ∀ x r, g x = some r → ∃ N, p_ring_Inv N x = some r) : SigOk Go.Proofs.Try.prog 26 ⟨[.xs (.int .u16) 256], [.xs (.int .u16) 256], g⟩ :=
  fun_of (E := p_ring_Inv_E) (H := p_ring_Inv_H) (L := fun N => p_ring_Inv_l17_L N) (c := p_ring_Inv_c) (ks := p_ring_Inv_ks) (rs := p_ring_Inv_rs) (F := p_ring_Inv) (p_ring_Inv_Eok he_ring_Reduce he_ring_powers he_ring_times) mix Go.Proofs.Try.func26 (by kernel_rfl) (fun N => p_ring_Inv_l17_ok N) p_ring_Inv_eq hg

/-! livery/ring.Mul -/
noncomputable def p_ring_Mul_E : AE := AE.of [(24, ty24)] [(24, ⟨[.xs (.int .u16) 256], [.xs (.int .u16) 256], g_ring_Ntt⟩), (20, ⟨[.xs (.int .u16) 256, .xs (.int .u16) 256], [.xs (.int .u16) 256], g_ring_MulNtt⟩), (26, ⟨[.xs (.int .u16) 256], [.xs (.int .u16) 256], g_ring_Inv⟩)]
noncomputable def p_ring_Mul_H : Hints := [(3000000, [4])]
noncomputable def p_ring_Mul_c : Code := (Go.Proofs.Try.f28).body.getD .skip
abbrev p_ring_Mul_ks : List Kd := [.xs (.int .u16) 256, .xs (.int .u16) 256]
abbrev p_ring_Mul_rs : List Kd := [.xs (.int .u16) 256]
noncomputable def p_ring_Mul (N : Nat) (x : List Int × List Int × Unit) : Option (List Int) :=
  (g_ring_Ntt (x.1, ())).bind fun r1 => (
  (g_ring_Ntt (x.2.1, ())).bind fun r2 => (
  (g_ring_MulNtt (r1, r2, ())).bind fun r3 => (
  (g_ring_Inv (r3, ())).bind fun r4 => (
  some r4))))
theorem p_ring_Mul_eq (N : Nat) (x : Ds [.xs (.int .u16) 256, .xs (.int .u16) 256]) : funL p_ring_Mul_E p_ring_Mul_H (LT.nil) N Go.Proofs.Try.f28 p_ring_Mul_c [.xs (.int .u16) 256, .xs (.int .u16) 256] [.xs (.int .u16) 256] x = p_ring_Mul N x := by kernel_rfl
theorem p_ring_Mul_Eok (he_ring_Ntt : SigOk Go.Proofs.Try.prog 24 ⟨[.xs (.int .u16) 256], [.xs (.int .u16) 256], g_ring_Ntt⟩) (he_ring_MulNtt : SigOk Go.Proofs.Try.prog 20 ⟨[.xs (.int .u16) 256, .xs (.int .u16) 256], [.xs (.int .u16) 256], g_ring_MulNtt⟩) (he_ring_Inv : SigOk Go.Proofs.Try.prog 26 ⟨[.xs (.int .u16) 256], [.xs (.int .u16) 256], g_ring_Inv⟩) : p_ring_Mul_E.Ok Go.Proofs.Try.prog := AE.of_ok (all_cons ty24_ok all_nil) (all_cons ⟨he_ring_Ntt, enters_ring_Ntt⟩ (all_cons ⟨he_ring_MulNtt, enters_ring_MulNtt⟩ (all_cons ⟨he_ring_Inv, enters_ring_Inv⟩ all_nil)))
theorem p_ring_Mul_ok (he_ring_Ntt : SigOk Go.Proofs.Try.prog 24 ⟨[.xs (.int .u16) 256], [.xs (.int .u16) 256], g_ring_Ntt⟩) (he_ring_MulNtt : SigOk Go.Proofs.Try.prog 20 ⟨[.xs (.int .u16) 256, .xs (.int .u16) 256], [.xs (.int .u16) 256], g_ring_MulNtt⟩) (he_ring_Inv : SigOk Go.Proofs.Try.prog 26 ⟨[.xs (.int .u16) 256], [.xs (.int .u16) 256], g_ring_Inv⟩) {g : Ds [.xs (.int .u16) 256, .xs (.int .u16) 256] → Option (Rs [.xs (.int .u16) 256])} (hg : ∀ x r, g x = some r → ∃ N, p_ring_Mul N x = some r) : SigOk Go.Proofs.Try.prog 28 ⟨[.xs (.int .u16) 256, .xs (.int .u16) 256], [.xs (.int .u16) 256], g⟩ :=
  fun_of (E := p_ring_Mul_E) (H := p_ring_Mul_H) (L := fun N => LT.nil) (c := p_ring_Mul_c) (ks := p_ring_Mul_ks) (rs := p_ring_Mul_rs) (F := p_ring_Mul) (p_ring_Mul_Eok he_ring_Ntt he_ring_MulNtt he_ring_Inv) mix Go.Proofs.Try.func28 (by kernel_rfl) (fun N => OkAll.nil) p_ring_Mul_eq hg

/-! livery/ring.Add -/
noncomputable def p_ring_Add_E : AE := AE.of [(22, ty22), (24, ty24)] [(37, ⟨[.xs (.int .u16) 256], [.xs (.int .u16) 256], g_ring_Reduce⟩)]
noncomputable def p_ring_Add_H : Hints := [(3, [2, 3, 4, 10]), (2000000, [2, 4]), (2000001, [2, 3, 4, 10]), (3000000, [4])]
noncomputable def p_ring_Add_c : Code := (Go.Proofs.Try.f29).body.getD .skip
noncomputable def p_ring_Add_l3_S : Shape where
  h := { tmps := [.any, .any, .sc (.ptr 0 0 false), .sc (.ptr 1 0 false), .sc (.ptr 2 0 false), .any, .any, .any, .any, .any, .sc (.int .i64), .any, .any, .any, .any, .any, .any, .any, .any, .any, .any, .any, .any, .any, .any], mem := [.live [.xs (.int .u16) (some 256)] true, .live [.xs (.int .u16) (some 256)] true, .live [.xs (.int .u16) (some 256)] true] }
  ks := [.int, .xs, .xs, .xs]
  st := fun x => { tmps := [.one .any, .one .any, .one (.sc (.ptr 0 0 none)), .one (.sc (.ptr 1 0 none)), .one (.sc (.ptr 2 0 none)), .one .any, .one .any, .one .any, .one .any, .one .any, .one (.sc (.int .i64 x.1)), .one .any, .one .any, .one .any, .one .any, .one .any, .one .any, .one .any, .one .any, .one .any, .one .any, .one .any, .one .any, .one .any, .one .any], mem := [.live { segs := [.xs (.int .u16) 256 x.2.1], own := true }, .live { segs := [.xs (.int .u16) 256 x.2.2.1], own := true }, .live { segs := [.xs (.int .u16) 256 x.2.2.2.1], own := true }] }
noncomputable def p_ring_Add_l3_F (N : Nat) (β : Type) (x : (Int × List Int × List Int × List Int × Unit)) (kn : (Int × List Int × List Int × List Int × Unit) → Option β) (ke : ((List Int × List Int × Unit)) → Option β) : Option β :=
  if (x.1 < (256:Int)) then
    if 0 ≤ x.1 then (
    if x.1 < 256 then (
    if (x.1.toNat) < 256 then (
    if 0 ≤ x.1 then (
    if x.1 < 256 then (
    if (x.1.toNat) < 256 then (
    if 0 ≤ x.1 then (
    if x.1 < 256 then (
    if (x.1.toNat) < 256 then (
    kn ((IntKind.i64.wrap (x.1 + (1:Int))), (List.set x.2.1 (x.1.toNat) (Int.tmod (IntKind.u16.wrap ((List.getD x.2.1 (x.1.toNat) 0) + (List.getD x.2.2.1 (x.1.toNat) 0))) (3329:Int))), x.2.2.1, x.2.2.2.1, ())) else none) else none) else none) else none) else none) else none) else none) else none) else none
  else
    ke (x.2.1, x.2.2.2.1, ())
noncomputable def p_ring_Add_l3_go : Go' ((List Int × List Int × Unit)) := fun y K => K (.exit 0) { tmps := [.one .any, .one .any, .one (.sc (.ptr 0 0 none)), .one .any, .one (.sc (.ptr 1 0 none)), .one .any, .one .any, .one .any, .one .any, .one .any, .one .any, .one .any, .one .any, .one .any, .one .any, .one .any, .one .any, .one .any, .one .any, .one .any, .one .any, .one .any, .one .any, .one .any, .one .any], mem := [.live { segs := [.xs (.int .u16) 256 y.1], own := true }, .live { segs := [.xs (.int .u16) 256 y.2.1], own := true }] }
noncomputable def p_ring_Add_l3_L (N : Nat) : LT := upd (LT.nil) 3 (loopE p_ring_Add_l3_S N (p_ring_Add_l3_F N) p_ring_Add_l3_go)
theorem p_ring_Add_l3_ok (N : Nat) : OkAll p_ring_Add_E p_ring_Add_H N (p_ring_Add_l3_L N) (subs p_ring_Add_c) :=
  addLoop (c := theLoop 3 p_ring_Add_c) (OkAll.nil) (by kernel_rfl) (fun x => by kernel_rfl) (fun β x kn ke => by kernel_rfl)
abbrev p_ring_Add_ks : List Kd := [.xs (.int .u16) 256, .xs (.int .u16) 256]
abbrev p_ring_Add_rs : List Kd := [.xs (.int .u16) 256]
noncomputable def p_ring_Add (N : Nat) (x : List Int × List Int × Unit) : Option (List Int) :=
  (g_ring_Reduce (x.1, ())).bind fun r1 => (
  (g_ring_Reduce (x.2.1, ())).bind fun r2 => (
  iter (p_ring_Add_l3_F N) N ((0:Int), r1, r2, (List.replicate 256 0), ()) fun y3 => (
  some y3.1)))
theorem p_ring_Add_eq (N : Nat) (x : Ds [.xs (.int .u16) 256, .xs (.int .u16) 256]) : funL p_ring_Add_E p_ring_Add_H (p_ring_Add_l3_L N) N Go.Proofs.Try.f29 p_ring_Add_c [.xs (.int .u16) 256, .xs (.int .u16) 256] [.xs (.int .u16) 256] x = p_ring_Add N x := by kernel_rfl
theorem p_ring_Add_Eok (he_ring_Reduce : SigOk Go.Proofs.Try.prog 37 ⟨[.xs (.int .u16) 256], [.xs (.int .u16) 256], g_ring_Reduce⟩) : p_ring_Add_E.Ok Go.Proofs.Try.prog := AE.of_ok (all_cons ty22_ok (all_cons ty24_ok all_nil)) (all_cons ⟨he_ring_Reduce, enters_ring_Reduce⟩ all_nil)
theorem p_ring_Add_ok (he_ring_Reduce : SigOk Go.Proofs.Try.prog 37 ⟨[.xs (.int .u16) 256], [.xs (.int .u16) 256], g_ring_Reduce⟩) {g : Ds [.xs (.int .u16) 256, .xs (.int .u16) 256] → Option (Rs [.xs (.int .u16) 256])} (hg : ∀ x r, g x = some r → ∃ N, p_ring_Add N x = some r) : SigOk Go.Proofs.Try.prog 29 ⟨[.xs (.int .u16) 256, .xs (.int .u16) 256], [.xs (.int .u16) 256], g⟩ :=
  fun_of (E := p_ring_Add_E) (H := p_ring_Add_H) (L := fun N => p_ring_Add_l3_L N) (c := p_ring_Add_c) (ks := p_ring_Add_ks) (rs := p_ring_Add_rs) (F := p_ring_Add) (p_ring_Add_Eok he_ring_Reduce) mix Go.Proofs.Try.func29 (by kernel_rfl) (fun N => p_ring_Add_l3_ok N) p_ring_Add_eq hg

/-! livery/liveryref13.Add -/
noncomputable def p_ref13_Add_E : AE := AE.of [(3, ty3), (22, ty22), (24, ty24)] []
noncomputable def p_ref13_Add_H : Hints := [(2, [2, 3, 4, 6]), (2000000, [2, 4]), (2000001, [2, 3, 4, 6]), (3000000, [4])]
noncomputable def p_ref13_Add_c : Code := (Go.Proofs.Try.f39).body.getD .skip
noncomputable def p_ref13_Add_l2_S : Shape where
  h := { tmps := [.any, .any, .sc (.ptr 0 0 false), .sc (.ptr 1 0 false), .sc (.ptr 2 0 false), .any, .sc (.int .i64), .any, .any, .any, .any, .any, .any, .any, .any, .any, .any, .any, .any, .any, .any, .any, .any, .any], mem := [.live [.xs (.int .u16) (some 256)] true, .live [.xs (.int .u16) (some 256)] true, .live [.xs (.int .u16) (some 256)] true] }
  ks := [.int, .xs, .xs, .xs]
  st := fun x => { tmps := [.one .any, .one .any, .one (.sc (.ptr 0 0 none)), .one (.sc (.ptr 1 0 none)), .one (.sc (.ptr 2 0 none)), .one .any, .one (.sc (.int .i64 x.1)), .one .any, .one .any, .one .any, .one .any, .one .any, .one .any, .one .any, .one .any, .one .any, .one .any, .one .any, .one .any, .one .any, .one .any, .one .any, .one .any, .one .any], mem := [.live { segs := [.xs (.int .u16) 256 x.2.1], own := true }, .live { segs := [.xs (.int .u16) 256 x.2.2.1], own := true }, .live { segs := [.xs (.int .u16) 256 x.2.2.2.1], own := true }] }
noncomputable def p_ref13_Add_l2_F (N : Nat) (β : Type) (x : (Int × List Int × List Int × List Int × Unit)) (kn : (Int × List Int × List Int × List Int × Unit) → Option β) (ke : ((List Int × List Int × Unit)) → Option β) : Option β :=
  if (x.1 < (256:Int)) then
    if 0 ≤ x.1 then (
    if x.1 < 256 then (
    if (x.1.toNat) < 256 then (
    if 0 ≤ x.1 then (
    if x.1 < 256 then (
    if (x.1.toNat) < 256 then (
    if 0 ≤ x.1 then (
    if x.1 < 256 then (
    if (x.1.toNat) < 256 then (
    kn ((IntKind.i64.wrap (x.1 + (1:Int))), (List.set x.2.1 (x.1.toNat) (IntKind.u16.wrap (Int.tmod (IntKind.i64.wrap ((IntKind.i64.wrap (List.getD x.2.1 (x.1.toNat) 0)) + (IntKind.i64.wrap (List.getD x.2.2.1 (x.1.toNat) 0)))) (3329:Int)))), x.2.2.1, x.2.2.2.1, ())) else none) else none) else none) else none) else none) else none) else none) else none) else none
  else
    ke (x.2.1, x.2.2.2.1, ())
noncomputable def p_ref13_Add_l2_go : Go' ((List Int × List Int × Unit)) := fun y K => K (.exit 0) { tmps := [.one .any, .one .any, .one (.sc (.ptr 0 0 none)), .one .any, .one (.sc (.ptr 1 0 none)), .one .any, .one .any, .one .any, .one .any, .one .any, .one .any, .one .any, .one .any, .one .any, .one .any, .one .any, .one .any, .one .any, .one .any, .one .any, .one .any, .one .any, .one .any, .one .any], mem := [.live { segs := [.xs (.int .u16) 256 y.1], own := true }, .live { segs := [.xs (.int .u16) 256 y.2.1], own := true }] }
noncomputable def p_ref13_Add_l2_L (N : Nat) : LT := upd (LT.nil) 2 (loopE p_ref13_Add_l2_S N (p_ref13_Add_l2_F N) p_ref13_Add_l2_go)
theorem p_ref13_Add_l2_ok (N : Nat) : OkAll p_ref13_Add_E p_ref13_Add_H N (p_ref13_Add_l2_L N) (subs p_ref13_Add_c) :=
  addLoop (c := theLoop 2 p_ref13_Add_c) (OkAll.nil) (by kernel_rfl) (fun x => by kernel_rfl) (fun β x kn ke => by kernel_rfl)
abbrev p_ref13_Add_ks : List Kd := [.xs (.int .u16) 256, .xs (.int .u16) 256]
abbrev p_ref13_Add_rs : List Kd := [.xs (.int .u16) 256]
noncomputable def p_ref13_Add (N : Nat) (x : List Int × List Int × Unit) : Option (List Int) :=
  iter (p_ref13_Add_l2_F N) N ((0:Int), x.1, x.2.1, (List.replicate 256 0), ()) fun y1 => (
  some y1.1)
theorem p_ref13_Add_eq (N : Nat) (x : Ds [.xs (.int .u16) 256, .xs (.int .u16) 256]) : funL p_ref13_Add_E p_ref13_Add_H (p_ref13_Add_l2_L N) N Go.Proofs.Try.f39 p_ref13_Add_c [.xs (.int .u16) 256, .xs (.int .u16) 256] [.xs (.int .u16) 256] x = p_ref13_Add N x := by kernel_rfl
theorem p_ref13_Add_Eok : p_ref13_Add_E.Ok Go.Proofs.Try.prog := AE.of_ok (all_cons ty3_ok (all_cons ty22_ok (all_cons ty24_ok all_nil))) all_nil
theorem p_ref13_Add_ok {g : Ds [.xs (.int .u16) 256, .xs (.int .u16) 256] → Option (Rs [.xs (.int .u16) 256])} (hg : ∀ x r, g x = some r → ∃ N, p_ref13_Add N x = some r) : SigOk Go.Proofs.Try.prog 39 ⟨[.xs (.int .u16) 256, .xs (.int .u16) 256], [.xs (.int .u16) 256], g⟩ :=
  fun_of (E := p_ref13_Add_E) (H := p_ref13_Add_H) (L := fun N => p_ref13_Add_l2_L N) (c := p_ref13_Add_c) (ks := p_ref13_Add_ks) (rs := p_ref13_Add_rs) (F := p_ref13_Add) (p_ref13_Add_Eok) mix Go.Proofs.Try.func39 (by kernel_rfl) (fun N => p_ref13_Add_l2_ok N) p_ref13_Add_eq hg

/-! livery/ring.Sub -/
noncomputable def p_ring_Sub_E : AE := AE.of [(22, ty22), (24, ty24)] [(37, ⟨[.xs (.int .u16) 256], [.xs (.int .u16) 256], g_ring_Reduce⟩)]
noncomputable def p_ring_Sub_H : Hints := [(3, [2, 3, 4, 10]), (2000000, [2, 4]), (2000001, [2, 3, 4, 10]), (3000000, [4])]
noncomputable def p_ring_Sub_c : Code := (Go.Proofs.Try.f40).body.getD .skip
noncomputable def p_ring_Sub_l3_S : Shape where
  h := { tmps := [.any, .any, .sc (.ptr 0 0 false), .sc (.ptr 1 0 false), .sc (.ptr 2 0 false), .any, .any, .any, .any, .any, .sc (.int .i64), .any, .any, .any, .any, .any, .any, .any, .any, .any, .any, .any, .any, .any, .any, .any], mem := [.live [.xs (.int .u16) (some 256)] true, .live [.xs (.int .u16) (some 256)] true, .live [.xs (.int .u16) (some 256)] true] }
  ks := [.int, .xs, .xs, .xs]
  st := fun x => { tmps := [.one .any, .one .any, .one (.sc (.ptr 0 0 none)), .one (.sc (.ptr 1 0 none)), .one (.sc (.ptr 2 0 none)), .one .any, .one .any, .one .any, .one .any, .one .any, .one (.sc (.int .i64 x.1)), .one .any, .one .any, .one .any, .one .any, .one .any, .one .any, .one .any, .one .any, .one .any, .one .any, .one .any, .one .any, .one .any, .one .any, .one .any], mem := [.live { segs := [.xs (.int .u16) 256 x.2.1], own := true }, .live { segs := [.xs (.int .u16) 256 x.2.2.1], own := true }, .live { segs := [.xs (.int .u16) 256 x.2.2.2.1], own := true }] }
noncomputable def p_ring_Sub_l3_F (N : Nat) (β : Type) (x : (Int × List Int × List Int × List Int × Unit)) (kn : (Int × List Int × List Int × List Int × Unit) → Option β) (ke : ((List Int × List Int × Unit)) → Option β) : Option β :=
  if (x.1 < (256:Int)) then
    if 0 ≤ x.1 then (
    if x.1 < 256 then (
    if (x.1.toNat) < 256 then (
    if 0 ≤ x.1 then (
    if x.1 < 256 then (
    if (x.1.toNat) < 256 then (
    if 0 ≤ x.1 then (
    if x.1 < 256 then (
    if (x.1.toNat) < 256 then (
    kn ((IntKind.i64.wrap (x.1 + (1:Int))), (List.set x.2.1 (x.1.toNat) (Int.tmod (IntKind.u16.wrap ((IntKind.u16.wrap ((List.getD x.2.1 (x.1.toNat) 0) + (3329:Int))) - (List.getD x.2.2.1 (x.1.toNat) 0))) (3329:Int))), x.2.2.1, x.2.2.2.1, ())) else none) else none) else none) else none) else none) else none) else none) else none) else none
  else
    ke (x.2.1, x.2.2.2.1, ())
noncomputable def p_ring_Sub_l3_go : Go' ((List Int × List Int × Unit)) := fun y K => K (.exit 0) { tmps := [.one .any, .one .any, .one (.sc (.ptr 0 0 none)), .one .any, .one (.sc (.ptr 1 0 none)), .one .any, .one .any, .one .any, .one .any, .one .any, .one .any, .one .any, .one .any, .one .any, .one .any, .one .any, .one .any, .one .any, .one .any, .one .any, .one .any, .one .any, .one .any, .one .any, .one .any, .one .any], mem := [.live { segs := [.xs (.int .u16) 256 y.1], own := true }, .live { segs := [.xs (.int .u16) 256 y.2.1], own := true }] }
noncomputable def p_ring_Sub_l3_L (N : Nat) : LT := upd (LT.nil) 3 (loopE p_ring_Sub_l3_S N (p_ring_Sub_l3_F N) p_ring_Sub_l3_go)
theorem p_ring_Sub_l3_ok (N : Nat) : OkAll p_ring_Sub_E p_ring_Sub_H N (p_ring_Sub_l3_L N) (subs p_ring_Sub_c) :=
  addLoop (c := theLoop 3 p_ring_Sub_c) (OkAll.nil) (by kernel_rfl) (fun x => by kernel_rfl) (fun β x kn ke => by kernel_rfl)
abbrev p_ring_Sub_ks : List Kd := [.xs (.int .u16) 256, .xs (.int .u16) 256]
abbrev p_ring_Sub_rs : List Kd := [.xs (.int .u16) 256]
noncomputable def p_ring_Sub (N : Nat) (x : List Int × List Int × Unit) : Option (List Int) :=
  (g_ring_Reduce (x.1, ())).bind fun r1 => (
  (g_ring_Reduce (x.2.1, ())).bind fun r2 => (
  iter (p_ring_Sub_l3_F N) N ((0:Int), r1, r2, (List.replicate 256 0), ()) fun y3 => (
  some y3.1)))
theorem p_ring_Sub_eq (N : Nat) (x : Ds [.xs (.int .u16) 256, .xs (.int .u16) 256]) : funL p_ring_Sub_E p_ring_Sub_H (p_ring_Sub_l3_L N) N Go.Proofs.Try.f40 p_ring_Sub_c [.xs (.int .u16) 256, .xs (.int .u16) 256] [.xs (.int .u16) 256] x = p_ring_Sub N x := by kernel_rfl
theorem p_ring_Sub_Eok (he_ring_Reduce : SigOk Go.Proofs.Try.prog 37 ⟨[.xs (.int .u16) 256], [.xs (.int .u16) 256], g_ring_Reduce⟩) : p_ring_Sub_E.Ok Go.Proofs.Try.prog := AE.of_ok (all_cons ty22_ok (all_cons ty24_ok all_nil)) (all_cons ⟨he_ring_Reduce, enters_ring_Reduce⟩ all_nil)
theorem p_ring_Sub_ok (he_ring_Reduce : SigOk Go.Proofs.Try.prog 37 ⟨[.xs (.int .u16) 256], [.xs (.int .u16) 256], g_ring_Reduce⟩) {g : Ds [.xs (.int .u16) 256, .xs (.int .u16) 256] → Option (Rs [.xs (.int .u16) 256])} (hg : ∀ x r, g x = some r → ∃ N, p_ring_Sub N x = some r) : SigOk Go.Proofs.Try.prog 40 ⟨[.xs (.int .u16) 256, .xs (.int .u16) 256], [.xs (.int .u16) 256], g⟩ :=
  fun_of (E := p_ring_Sub_E) (H := p_ring_Sub_H) (L := fun N => p_ring_Sub_l3_L N) (c := p_ring_Sub_c) (ks := p_ring_Sub_ks) (rs := p_ring_Sub_rs) (F := p_ring_Sub) (p_ring_Sub_Eok he_ring_Reduce) mix Go.Proofs.Try.func40 (by kernel_rfl) (fun N => p_ring_Sub_l3_ok N) p_ring_Sub_eq hg

/-! livery/liveryref13.Sub -/
noncomputable def p_ref13_Sub_E : AE := AE.of [(3, ty3), (22, ty22), (24, ty24)] []
noncomputable def p_ref13_Sub_H : Hints := [(2, [2, 3, 4, 6]), (2000000, [2, 4]), (2000001, [2, 3, 4, 6]), (3000000, [4])]
noncomputable def p_ref13_Sub_c : Code := (Go.Proofs.Try.f41).body.getD .skip
noncomputable def p_ref13_Sub_l2_S : Shape where
  h := { tmps := [.any, .any, .sc (.ptr 0 0 false), .sc (.ptr 1 0 false), .sc (.ptr 2 0 false), .any, .sc (.int .i64), .any, .any, .any, .any, .any, .any, .any, .any, .any, .any, .any, .any, .any, .any, .any, .any, .any, .any, .any, .any], mem := [.live [.xs (.int .u16) (some 256)] true, .live [.xs (.int .u16) (some 256)] true, .live [.xs (.int .u16) (some 256)] true] }
  ks := [.int, .xs, .xs, .xs]
  st := fun x => { tmps := [.one .any, .one .any, .one (.sc (.ptr 0 0 none)), .one (.sc (.ptr 1 0 none)), .one (.sc (.ptr 2 0 none)), .one .any, .one (.sc (.int .i64 x.1)), .one .any, .one .any, .one .any, .one .any, .one .any, .one .any, .one .any, .one .any, .one .any, .one .any, .one .any, .one .any, .one .any, .one .any, .one .any, .one .any, .one .any, .one .any, .one .any, .one .any], mem := [.live { segs := [.xs (.int .u16) 256 x.2.1], own := true }, .live { segs := [.xs (.int .u16) 256 x.2.2.1], own := true }, .live { segs := [.xs (.int .u16) 256 x.2.2.2.1], own := true }] }
noncomputable def p_ref13_Sub_l2_F (N : Nat) (β : Type) (x : (Int × List Int × List Int × List Int × Unit)) (kn : (Int × List Int × List Int × List Int × Unit) → Option β) (ke : ((List Int × List Int × Unit)) → Option β) : Option β :=
  if (x.1 < (256:Int)) then
    if 0 ≤ x.1 then (
    if x.1 < 256 then (
    if (x.1.toNat) < 256 then (
    if 0 ≤ x.1 then (
    if x.1 < 256 then (
    if (x.1.toNat) < 256 then (
    if 0 ≤ x.1 then (
    if x.1 < 256 then (
    if (x.1.toNat) < 256 then (
    kn ((IntKind.i64.wrap (x.1 + (1:Int))), (List.set x.2.1 (x.1.toNat) (IntKind.u16.wrap (Int.tmod (IntKind.i64.wrap ((IntKind.i64.wrap ((IntKind.i64.wrap (Int.tmod (List.getD x.2.1 (x.1.toNat) 0) (3329:Int))) + (3329:Int))) - (IntKind.i64.wrap (Int.tmod (List.getD x.2.2.1 (x.1.toNat) 0) (3329:Int))))) (3329:Int)))), x.2.2.1, x.2.2.2.1, ())) else none) else none) else none) else none) else none) else none) else none) else none) else none
  else
    ke (x.2.1, x.2.2.2.1, ())
noncomputable def p_ref13_Sub_l2_go : Go' ((List Int × List Int × Unit)) := fun y K => K (.exit 0) { tmps := [.one .any, .one .any, .one (.sc (.ptr 0 0 none)), .one .any, .one (.sc (.ptr 1 0 none)), .one .any, .one .any, .one .any, .one .any, .one .any, .one .any, .one .any, .one .any, .one .any, .one .any, .one .any, .one .any, .one .any, .one .any, .one .any, .one .any, .one .any, .one .any, .one .any, .one .any, .one .any, .one .any], mem := [.live { segs := [.xs (.int .u16) 256 y.1], own := true }, .live { segs := [.xs (.int .u16) 256 y.2.1], own := true }] }
noncomputable def p_ref13_Sub_l2_L (N : Nat) : LT := upd (LT.nil) 2 (loopE p_ref13_Sub_l2_S N (p_ref13_Sub_l2_F N) p_ref13_Sub_l2_go)
theorem p_ref13_Sub_l2_ok (N : Nat) : OkAll p_ref13_Sub_E p_ref13_Sub_H N (p_ref13_Sub_l2_L N) (subs p_ref13_Sub_c) :=
  addLoop (c := theLoop 2 p_ref13_Sub_c) (OkAll.nil) (by kernel_rfl) (fun x => by kernel_rfl) (fun β x kn ke => by kernel_rfl)
abbrev p_ref13_Sub_ks : List Kd := [.xs (.int .u16) 256, .xs (.int .u16) 256]
abbrev p_ref13_Sub_rs : List Kd := [.xs (.int .u16) 256]
noncomputable def p_ref13_Sub (N : Nat) (x : List Int × List Int × Unit) : Option (List Int) :=
  iter (p_ref13_Sub_l2_F N) N ((0:Int), x.1, x.2.1, (List.replicate 256 0), ()) fun y1 => (
  some y1.1)
theorem p_ref13_Sub_eq (N : Nat) (x : Ds [.xs (.int .u16) 256, .xs (.int .u16) 256]) : funL p_ref13_Sub_E p_ref13_Sub_H (p_ref13_Sub_l2_L N) N Go.Proofs.Try.f41 p_ref13_Sub_c [.xs (.int .u16) 256, .xs (.int .u16) 256] [.xs (.int .u16) 256] x = p_ref13_Sub N x := by kernel_rfl
theorem p_ref13_Sub_Eok : p_ref13_Sub_E.Ok Go.Proofs.Try.prog := AE.of_ok (all_cons ty3_ok (all_cons ty22_ok (all_cons ty24_ok all_nil))) all_nil
theorem p_ref13_Sub_ok {g : Ds [.xs (.int .u16) 256, .xs (.int .u16) 256] → Option (Rs [.xs (.int .u16) 256])} (hg : ∀ x r, g x = some r → ∃ N, p_ref13_Sub N x = some r) : SigOk Go.Proofs.Try.prog 41 ⟨[.xs (.int .u16) 256, .xs (.int .u16) 256], [.xs (.int .u16) 256], g⟩ :=
  fun_of (E := p_ref13_Sub_E) (H := p_ref13_Sub_H) (L := fun N => p_ref13_Sub_l2_L N) (c := p_ref13_Sub_c) (ks := p_ref13_Sub_ks) (rs := p_ref13_Sub_rs) (F := p_ref13_Sub) (p_ref13_Sub_Eok) mix Go.Proofs.Try.func41 (by kernel_rfl) (fun N => p_ref13_Sub_l2_ok N) p_ref13_Sub_eq hg

/-! livery/liverylaw13.RingTurns -/
noncomputable def p_law13_RingTurns_E : AE := AE.of [(22, ty22), (24, ty24)] [(24, ⟨[.xs (.int .u16) 256], [.xs (.int .u16) 256], g_ring_Ntt⟩), (18, ⟨[], [.bool], g_law13_live⟩), (28, ⟨[.xs (.int .u16) 256, .xs (.int .u16) 256], [.xs (.int .u16) 256], g_ring_Mul⟩), (20, ⟨[.xs (.int .u16) 256, .xs (.int .u16) 256], [.xs (.int .u16) 256], g_ring_MulNtt⟩), (29, ⟨[.xs (.int .u16) 256, .xs (.int .u16) 256], [.xs (.int .u16) 256], g_ring_Add⟩), (26, ⟨[.xs (.int .u16) 256], [.xs (.int .u16) 256], g_ring_Inv⟩)]
noncomputable def p_law13_RingTurns_H : Hints := [(3000000, [4])]
noncomputable def p_law13_RingTurns_c : Code := (Go.Proofs.Try.f8).body.getD .skip
abbrev p_law13_RingTurns_ks : List Kd := [.xs (.int .u16) 256, .xs (.int .u16) 256]
abbrev p_law13_RingTurns_rs : List Kd := [.bool]
noncomputable def p_law13_RingTurns (N : Nat) (x : List Int × List Int × Unit) : Option (Bool) :=
  (g_ring_Ntt (x.1, ())).bind fun r1 => (
  (g_ring_Ntt (x.2.1, ())).bind fun r2 => (
  (g_law13_live (())).bind fun r3 => (
  if (r3 = true) then
    (g_ring_Mul (x.1, x.2.1, ())).bind fun r4 => (
    (g_ring_Ntt (r4, ())).bind fun r5 => (
    (g_ring_MulNtt (r1, r2, ())).bind fun r6 => (
    if (r5 = r6) then
      (g_ring_Add (x.1, x.2.1, ())).bind fun r7 => (
      (g_ring_Ntt (r7, ())).bind fun r8 => (
      (g_ring_Add (r1, r2, ())).bind fun r9 => (
      if (r8 = r9) then
        (g_ring_MulNtt (r1, r2, ())).bind fun r10 => (
        (g_ring_Inv (r10, ())).bind fun r11 => (
        (g_ring_Mul (x.1, x.2.1, ())).bind fun r12 => (
        some (decide (r11 = r12)))))
      else
        some false)))
    else
      some false)))
  else
    some false)))
theorem p_law13_RingTurns_eq (N : Nat) (x : Ds [.xs (.int .u16) 256, .xs (.int .u16) 256]) : funL p_law13_RingTurns_E p_law13_RingTurns_H (LT.nil) N Go.Proofs.Try.f8 p_law13_RingTurns_c [.xs (.int .u16) 256, .xs (.int .u16) 256] [.bool] x = p_law13_RingTurns N x := by kernel_rfl
theorem p_law13_RingTurns_Eok (he_ring_Ntt : SigOk Go.Proofs.Try.prog 24 ⟨[.xs (.int .u16) 256], [.xs (.int .u16) 256], g_ring_Ntt⟩) (he_law13_live : SigOk Go.Proofs.Try.prog 18 ⟨[], [.bool], g_law13_live⟩) (he_ring_Mul : SigOk Go.Proofs.Try.prog 28 ⟨[.xs (.int .u16) 256, .xs (.int .u16) 256], [.xs (.int .u16) 256], g_ring_Mul⟩) (he_ring_MulNtt : SigOk Go.Proofs.Try.prog 20 ⟨[.xs (.int .u16) 256, .xs (.int .u16) 256], [.xs (.int .u16) 256], g_ring_MulNtt⟩) (he_ring_Add : SigOk Go.Proofs.Try.prog 29 ⟨[.xs (.int .u16) 256, .xs (.int .u16) 256], [.xs (.int .u16) 256], g_ring_Add⟩) (he_ring_Inv : SigOk Go.Proofs.Try.prog 26 ⟨[.xs (.int .u16) 256], [.xs (.int .u16) 256], g_ring_Inv⟩) : p_law13_RingTurns_E.Ok Go.Proofs.Try.prog := AE.of_ok (all_cons ty22_ok (all_cons ty24_ok all_nil)) (all_cons ⟨he_ring_Ntt, enters_ring_Ntt⟩ (all_cons ⟨he_law13_live, enters_law13_live⟩ (all_cons ⟨he_ring_Mul, enters_ring_Mul⟩ (all_cons ⟨he_ring_MulNtt, enters_ring_MulNtt⟩ (all_cons ⟨he_ring_Add, enters_ring_Add⟩ (all_cons ⟨he_ring_Inv, enters_ring_Inv⟩ all_nil))))))
theorem p_law13_RingTurns_ok (he_ring_Ntt : SigOk Go.Proofs.Try.prog 24 ⟨[.xs (.int .u16) 256], [.xs (.int .u16) 256], g_ring_Ntt⟩) (he_law13_live : SigOk Go.Proofs.Try.prog 18 ⟨[], [.bool], g_law13_live⟩) (he_ring_Mul : SigOk Go.Proofs.Try.prog 28 ⟨[.xs (.int .u16) 256, .xs (.int .u16) 256], [.xs (.int .u16) 256], g_ring_Mul⟩) (he_ring_MulNtt : SigOk Go.Proofs.Try.prog 20 ⟨[.xs (.int .u16) 256, .xs (.int .u16) 256], [.xs (.int .u16) 256], g_ring_MulNtt⟩) (he_ring_Add : SigOk Go.Proofs.Try.prog 29 ⟨[.xs (.int .u16) 256, .xs (.int .u16) 256], [.xs (.int .u16) 256], g_ring_Add⟩) (he_ring_Inv : SigOk Go.Proofs.Try.prog 26 ⟨[.xs (.int .u16) 256], [.xs (.int .u16) 256], g_ring_Inv⟩) {g : Ds [.xs (.int .u16) 256, .xs (.int .u16) 256] → Option (Rs [.bool])} (hg : ∀ x r, g x = some r → ∃ N, p_law13_RingTurns N x = some r) : SigOk Go.Proofs.Try.prog 8 ⟨[.xs (.int .u16) 256, .xs (.int .u16) 256], [.bool], g⟩ :=
  fun_of (E := p_law13_RingTurns_E) (H := p_law13_RingTurns_H) (L := fun N => LT.nil) (c := p_law13_RingTurns_c) (ks := p_law13_RingTurns_ks) (rs := p_law13_RingTurns_rs) (F := p_law13_RingTurns) (p_law13_RingTurns_Eok he_ring_Ntt he_law13_live he_ring_Mul he_ring_MulNtt he_ring_Add he_ring_Inv) mix Go.Proofs.Try.func8 (by kernel_rfl) (fun N => OkAll.nil) p_law13_RingTurns_eq hg

/-! livery/liverylaw13.RingLaws -/
noncomputable def p_law13_RingLaws_E : AE := AE.of [(22, ty22), (24, ty24)] [(18, ⟨[], [.bool], g_law13_live⟩), (29, ⟨[.xs (.int .u16) 256, .xs (.int .u16) 256], [.xs (.int .u16) 256], g_ring_Add⟩), (28, ⟨[.xs (.int .u16) 256, .xs (.int .u16) 256], [.xs (.int .u16) 256], g_ring_Mul⟩), (40, ⟨[.xs (.int .u16) 256, .xs (.int .u16) 256], [.xs (.int .u16) 256], g_ring_Sub⟩), (37, ⟨[.xs (.int .u16) 256], [.xs (.int .u16) 256], g_ring_Reduce⟩)]
noncomputable def p_law13_RingLaws_H : Hints := [(3000000, [6])]
noncomputable def p_law13_RingLaws_c : Code := (Go.Proofs.Try.f11).body.getD .skip
abbrev p_law13_RingLaws_ks : List Kd := [.xs (.int .u16) 256, .xs (.int .u16) 256, .xs (.int .u16) 256]
abbrev p_law13_RingLaws_rs : List Kd := [.bool]
noncomputable def p_law13_RingLaws (N : Nat) (x : List Int × List Int × List Int × Unit) : Option (Bool) :=
  (g_law13_live (())).bind fun r1 => (
  if (¬ (r1 = true)) then
    some false
  else
    (g_ring_Add (x.1, x.2.1, ())).bind fun r2 => (
    (g_ring_Add (x.2.1, x.1, ())).bind fun r3 => (
    if (r2 ≠ r3) then
      some false
    else
      (g_ring_Mul (x.1, x.2.1, ())).bind fun r4 => (
      (g_ring_Mul (x.2.1, x.1, ())).bind fun r5 => (
      if (r4 ≠ r5) then
        some false
      else
        (g_ring_Add (x.1, x.2.1, ())).bind fun r6 => (
        (g_ring_Sub (r6, x.2.1, ())).bind fun r7 => (
        (g_ring_Reduce (x.1, ())).bind fun r8 => (
        if (r7 ≠ r8) then
          some false
        else
          (g_ring_Add (x.1, x.2.1, ())).bind fun r9 => (
          (g_ring_Add (r9, x.2.2.1, ())).bind fun r10 => (
          (g_ring_Add (x.2.1, x.2.2.1, ())).bind fun r11 => (
          (g_ring_Add (x.1, r11, ())).bind fun r12 => (
          if (r10 = r12) then
            (g_ring_Mul (x.1, x.2.1, ())).bind fun r13 => (
            (g_ring_Mul (r13, x.2.2.1, ())).bind fun r14 => (
            (g_ring_Mul (x.2.1, x.2.2.1, ())).bind fun r15 => (
            (g_ring_Mul (x.1, r15, ())).bind fun r16 => (
            if (r14 = r16) then
              (g_ring_Add (x.2.1, x.2.2.1, ())).bind fun r17 => (
              (g_ring_Mul (x.1, r17, ())).bind fun r18 => (
              (g_ring_Mul (x.1, x.2.1, ())).bind fun r19 => (
              (g_ring_Mul (x.1, x.2.2.1, ())).bind fun r20 => (
              (g_ring_Add (r19, r20, ())).bind fun r21 => (
              if (r18 = r21) then
                (g_ring_Mul (x.1, (List.set (List.replicate 256 0) 0 (1:Int)), ())).bind fun r22 => (
                (g_ring_Reduce (x.1, ())).bind fun r23 => (
                some (decide (r22 = r23))))
              else
                some false)))))
            else
              some false))))
          else
            some false))))))))))))
theorem p_law13_RingLaws_eq (N : Nat) (x : Ds [.xs (.int .u16) 256, .xs (.int .u16) 256, .xs (.int .u16) 256]) : funL p_law13_RingLaws_E p_law13_RingLaws_H (LT.nil) N Go.Proofs.Try.f11 p_law13_RingLaws_c [.xs (.int .u16) 256, .xs (.int .u16) 256, .xs (.int .u16) 256] [.bool] x = p_law13_RingLaws N x := by kernel_rfl
theorem p_law13_RingLaws_Eok (he_law13_live : SigOk Go.Proofs.Try.prog 18 ⟨[], [.bool], g_law13_live⟩) (he_ring_Add : SigOk Go.Proofs.Try.prog 29 ⟨[.xs (.int .u16) 256, .xs (.int .u16) 256], [.xs (.int .u16) 256], g_ring_Add⟩) (he_ring_Mul : SigOk Go.Proofs.Try.prog 28 ⟨[.xs (.int .u16) 256, .xs (.int .u16) 256], [.xs (.int .u16) 256], g_ring_Mul⟩) (he_ring_Sub : SigOk Go.Proofs.Try.prog 40 ⟨[.xs (.int .u16) 256, .xs (.int .u16) 256], [.xs (.int .u16) 256], g_ring_Sub⟩) (he_ring_Reduce : SigOk Go.Proofs.Try.prog 37 ⟨[.xs (.int .u16) 256], [.xs (.int .u16) 256], g_ring_Reduce⟩) : p_law13_RingLaws_E.Ok Go.Proofs.Try.prog := AE.of_ok (all_cons ty22_ok (all_cons ty24_ok all_nil)) (all_cons ⟨he_law13_live, enters_law13_live⟩ (all_cons ⟨he_ring_Add, enters_ring_Add⟩ (all_cons ⟨he_ring_Mul, enters_ring_Mul⟩ (all_cons ⟨he_ring_Sub, enters_ring_Sub⟩ (all_cons ⟨he_ring_Reduce, enters_ring_Reduce⟩ all_nil)))))
theorem p_law13_RingLaws_ok (he_law13_live : SigOk Go.Proofs.Try.prog 18 ⟨[], [.bool], g_law13_live⟩) (he_ring_Add : SigOk Go.Proofs.Try.prog 29 ⟨[.xs (.int .u16) 256, .xs (.int .u16) 256], [.xs (.int .u16) 256], g_ring_Add⟩) (he_ring_Mul : SigOk Go.Proofs.Try.prog 28 ⟨[.xs (.int .u16) 256, .xs (.int .u16) 256], [.xs (.int .u16) 256], g_ring_Mul⟩) (he_ring_Sub : SigOk Go.Proofs.Try.prog 40 ⟨[.xs (.int .u16) 256, .xs (.int .u16) 256], [.xs (.int .u16) 256], g_ring_Sub⟩) (he_ring_Reduce : SigOk Go.Proofs.Try.prog 37 ⟨[.xs (.int .u16) 256], [.xs (.int .u16) 256], g_ring_Reduce⟩) {g : Ds [.xs (.int .u16) 256, .xs (.int .u16) 256, .xs (.int .u16) 256] → Option (Rs [.bool])} (hg : ∀ x r, g x = some r → ∃ N, p_law13_RingLaws N x = some r) : SigOk Go.Proofs.Try.prog 11 ⟨[.xs (.int .u16) 256, .xs (.int .u16) 256, .xs (.int .u16) 256], [.bool], g⟩ :=
  fun_of (E := p_law13_RingLaws_E) (H := p_law13_RingLaws_H) (L := fun N => LT.nil) (c := p_law13_RingLaws_c) (ks := p_law13_RingLaws_ks) (rs := p_law13_RingLaws_rs) (F := p_law13_RingLaws) (p_law13_RingLaws_Eok he_law13_live he_ring_Add he_ring_Mul he_ring_Sub he_ring_Reduce) mix Go.Proofs.Try.func11 (by kernel_rfl) (fun N => OkAll.nil) p_law13_RingLaws_eq hg
end Go.Ax.TryP
/-! ### The transform's inverse, sums, products: the printed functions -/
namespace Go.Ax.TryP

theorem ival_bound (s : Nat) (a : List Int) (j : Nat) : 0 ≤ ival s a j ∧ ival s a j < 3329 := by unfold ival; split <;> omega
theorem red_iLayer (s : Nat) (a : List Int) : red (iLayer s a) := red_poly fun i _ => ival_bound s a i
theorem red_iStage (a : List Int) : ∀ i, red (iStage a i)
  | 0 => red_fRed a
  | _ + 1 => red_iLayer _ _
def iMix (s : Nat) (a : List Int) (at' r j : Nat) : Int := if nDone s at' r j then ival s a j else a.getD j 0
theorem ival_lo {s b r : Nat} (hs : 0 < s) (hr : r < s) (a : List Int) : ival s a (2 * s * b + r) = (a.getD (2 * s * b + r) 0 + a.getD (2 * s * b + r + s) 0) % 3329 := by
  have e1 : (2 * s * b + r) % (2 * s) = r := by rw [Nat.mul_add_mod]; exact Nat.mod_eq_of_lt (by omega)
  unfold ival
  rw [e1, if_pos hr]
theorem ival_hi {s m b r : Nat} (hm : s * m = 128) (hs : 0 < s) (hr : r < s) (a : List Int) : ival s a (2 * s * b + r + s) = zeta (2 * m - 1 - b) * ((a.getD (2 * s * b + r + s) 0 + 3329 - a.getD (2 * s * b + r) 0) % 3329) % 3329 := by
  have e1 : (2 * s * b + r + s) % (2 * s) = r + s := by rw [Nat.add_assoc, Nat.mul_add_mod]; exact Nat.mod_eq_of_lt (by omega)
  have e2 : (2 * s * b + r + s) / (2 * s) = b := by rw [Nat.add_assoc, Nat.mul_add_div (by omega), Nat.div_eq_of_lt (by omega), Nat.add_zero]
  have e3 : 128 / s = m := by rw [← hm, Nat.mul_div_cancel_left _ hs]
  unfold ival
  rw [e1, e2, e3, if_neg (by omega), Nat.add_sub_cancel]

theorem inv_block {β : Type} {N s m b : Nat} (hm : s * m = 128) (hs : 0 < s) (hb : b < m) (hm64 : m ≤ 64) (hN : 300 ≤ N) {a : List Int} (ha : red a) (res : List Int) (K : Int × Int × Int × List Int × List Int × List Int × Unit → Option β) :
    iter (p_ring_Inv_l11_F N) N (((2 * m - 1 - b : Nat) : Int), (s : Int), ((2 * s * b : Nat) : Int), ((2 * s * b : Nat) : Int), poly (iMix s a (2 * s * b) 0), res, (List.range 128).map zeta, ()) K
      = K (((2 * m - 1 - b : Nat) : Int), (s : Int), ((2 * s * b : Nat) : Int), poly (iMix s a (2 * s * (b + 1)) 0), res, (List.range 128).map zeta, ()) := by
  have hs128 : s ≤ 128 := by rw [← hm]; exact Nat.le_mul_of_pos_right _ (by omega)
  have hat : 2 * s * b + 2 * s ≤ 256 := by
    have : s * (b + 1) ≤ s * m := Nat.mul_le_mul_left _ (by omega)
    rw [hm, Nat.mul_add] at this
    rw [Nat.mul_assoc]
    omega
  have hnext : 2 * s * (b + 1) = 2 * s * b + 2 * s := by rw [Nat.mul_add, Nat.mul_one]
  rw [hnext]
  have hk : 2 * m - 1 - b < 128 := by omega
  have hz := zeta_bound (2 * m - 1 - b)
  have hzg : ((List.range 128).map zeta).getD (2 * m - 1 - b) 0 = zeta (2 * m - 1 - b) := map_range_getD hk
  have hlo := fun r (hr : r < s) => ival_lo (b := b) hs hr a
  have hhi := fun r (hr : r < s) => ival_hi (b := b) hm hs hr a
  generalize 2 * s * b = c at *
  generalize 2 * m - 1 - b = k at *
  refine (iter_run (F := p_ring_Inv_l11_F N) (s := fun r => ((k : Int), (s : Int), (c : Int), ((c + r : Nat) : Int), poly (iMix s a c r), res, (List.range 128).map zeta, ())) (y := ((k : Int), (s : Int), (c : Int), poly (iMix s a (c + 2 * s) 0), res, (List.range 128).map zeta, ())) s ?_ ?_ N (by omega)).trans ?_
  · intro r hr kn
    have h1 := ha.2 (c + r)
    have h2 := ha.2 (c + r + s)
    have g1 : (poly (iMix s a c r)).getD (c + r) 0 = a.getD (c + r) 0 := by rw [poly_getD (by omega), iMix, if_neg (by unfold nDone; omega)]
    have g2 : (poly (iMix s a c r)).getD (c + r + s) 0 = a.getD (c + r + s) 0 := by rw [poly_getD (by omega), iMix, if_neg (by unfold nDone; omega)]
    have ht := at47 (a := zeta k) (b := (a.getD (c + r + s) 0 + 3329 - a.getD (c + r) 0) % 3329) (by omega) (by omega)
    have hl := hlo r hr
    have hh := hhi r hr
    have ec : ((c + r : Nat) : Int) + (s : Int) = ((c + r + s : Nat) : Int) := by omega
    unfold p_ring_Inv_l11_F
    simp (disch := omega) only [if_pos, wrap_i64, ec, Int.toNat_natCast, hzg, g1, g2, Option.bind_some, wrap_u16, tmod_pos, ht]
    rw [← hl, ← hh]
    rw [poly_set (h' := fun j => if j = c + r then ival s a j else iMix s a c r j) (by simp) (fun i _ hi => by simp [hi])]
    rw [poly_set (h' := iMix s a c (r + 1)) ?_ ?_]
    · rfl
    · unfold iMix; rw [if_pos (by unfold nDone; omega)]
    · intro i hi hne
      by_cases h : i = c + r
      · rw [if_pos h, h]; unfold iMix; rw [if_pos (by unfold nDone; omega)]
      · rw [if_neg h]; unfold iMix
        by_cases hd : nDone s c r i
        · rw [if_pos hd, if_pos (by unfold nDone at *; omega)]
        · rw [if_neg hd, if_neg (by unfold nDone at *; omega)]
  · intro kn
    unfold p_ring_Inv_l11_F
    simp (disch := omega) only [if_neg, wrap_i64]
    rw [poly_congr (h' := iMix s a (c + 2 * s) 0)]
    intro i hi
    unfold iMix
    by_cases hd : nDone s c s i
    · rw [if_pos hd, if_pos (by unfold nDone at *; omega)]
    · rw [if_neg hd, if_neg (by unfold nDone at *; omega)]
  · rfl

theorem inv_layer {β : Type} {N s m : Nat} (hm : s * m = 128) (hs : 0 < s) (hm0 : 0 < m) (hm64 : m ≤ 64) (hN : 300 ≤ N) {a : List Int} (ha : red a) (res : List Int) (K : Int × Int × List Int × List Int × List Int × Unit → Option β) :
    iter (p_ring_Inv_l8_F N) N (((2 * m - 1 : Nat) : Int), (s : Int), 0, a, res, (List.range 128).map zeta, ()) K = K (((m - 1 : Nat) : Int), (s : Int), iLayer s a, res, (List.range 128).map zeta, ()) := by
  have hs128 : s ≤ 128 := by rw [← hm]; exact Nat.le_mul_of_pos_right _ hm0
  have hall : 2 * s * m = 256 := by rw [Nat.mul_assoc, hm]
  have hat : ∀ b, b ≤ m → 2 * s * b ≤ 256 := fun b hb => by
    have := Nat.mul_le_mul_left (2 * s) hb
    omega
  have h0 : poly (iMix s a (2 * s * 0) 0) = a := by
    refine (poly_congr fun i hi => ?_).trans (poly_self ha.1)
    unfold iMix
    rw [if_neg (by unfold nDone; omega)]
  refine Eq.trans ?_ (iter_run (F := p_ring_Inv_l8_F N) (s := fun b => (((2 * m - 1 : Nat) : Int) - (b : Int), (s : Int), ((2 * s * b : Nat) : Int), poly (iMix s a (2 * s * b) 0), res, (List.range 128).map zeta, ())) (y := (((m - 1 : Nat) : Int), (s : Int), iLayer s a, res, (List.range 128).map zeta, ())) m ?_ ?_ N (by omega))
  · rw [h0, Int.natCast_zero, Int.sub_zero]; rfl
  · intro b hb kn
    have h1 := hat (b + 1) (by omega)
    have hnext : 2 * s * (b + 1) = 2 * s * b + 2 * s := by rw [Nat.mul_add, Nat.mul_one]
    have hblock := inv_block (b := b) hm hs hb hm64 hN ha res (β := β)
    have ek : ((2 * m - 1 : Nat) : Int) - (b : Int) = ((2 * m - 1 - b : Nat) : Int) := by omega
    unfold p_ring_Inv_l8_F
    dsimp only
    rw [ek]
    rw [if_pos (by omega)]
    refine (hblock _).trans ?_
    rw [hnext] at h1 ⊢
    simp (disch := omega) only [wrap_i64]
    have ek2 : ((2 * m - 1 - b : Nat) : Int) - 1 = ((2 * m - 1 : Nat) : Int) - ((b + 1 : Nat) : Int) := by omega
    have ea : ((2 * s * b : Nat) : Int) + 2 * (s : Int) = ((2 * s * b + 2 * s : Nat) : Int) := by omega
    rw [ek2, ea]
  · intro kn
    unfold p_ring_Inv_l8_F
    dsimp only
    rw [if_neg (by omega)]
    have : poly (iMix s a (2 * s * m) 0) = iLayer s a := by
      unfold iLayer
      rw [hall]
      refine poly_congr fun i hi => ?_
      unfold iMix
      rw [if_pos (by unfold nDone; omega)]
    rw [this]
    rw [show ((2 * m - 1 : Nat) : Int) - (m : Int) = ((m - 1 : Nat) : Int) by omega]

theorem istage_facts : ∀ i, i < 7 → (2 * 2 ^ i) * (64 / 2 ^ i) = 128 ∧ 0 < 64 / 2 ^ i ∧ 64 / 2 ^ i ≤ 64 ∧ 2 * 2 ^ i ≤ 128 ∧ 128 / 2 ^ i - 1 = 2 * (64 / 2 ^ i) - 1 ∧ 64 / 2 ^ i - 1 = 128 / 2 ^ (i + 1) - 1 := by decide
theorem q_ring_Inv : ∀ x r, g_ring_Inv x = some r → ∃ N, p_ring_Inv N x = some r := by
  refine Spec_of (ks := p_ring_Inv_ks) (rs := p_ring_Inv_rs) fun x hw _ => ⟨300, ?_⟩
  obtain ⟨(a : List Int), u⟩ := x
  have ha := wf_one.1 hw
  unfold p_ring_Inv
  refine (congrArg (fun o => Option.bind o _) (at37 ha)).trans ?_
  refine (congrArg (fun o => Option.bind o _) at46).trans ?_
  simp only [Option.bind_some]
  refine (iter_run (F := p_ring_Inv_l5_F 300) (s := fun i => (((128 / 2 ^ i - 1 : Nat) : Int), ((2 * 2 ^ i : Nat) : Int), iStage a i, List.replicate 256 0, (List.range 128).map zeta, ())) (y := (iStage a 7, List.replicate 256 0, ())) 7 ?_ ?_ 300 (by omega)).trans ?_
  · intro i hi kn
    obtain ⟨f1, f2, f3, f4, f5, f6⟩ := istage_facts i hi
    unfold p_ring_Inv_l5_F
    dsimp only
    rw [if_pos (show ((2 * 2 ^ i : Nat) : Int) ≤ 128 from Int.ofNat_le.2 f4), f5]
    refine (inv_layer f1 (Nat.mul_pos (by decide) (Nat.two_pow_pos i)) f2 f3 (Nat.le_refl _) (red_iStage a i) _ _).trans ?_
    simp (disch := omega) only [wrap_i64]
    rw [f6, Nat.pow_succ]
    have : ((2 * 2 ^ i : Nat) : Int) * 2 = ((2 * (2 ^ i * 2) : Nat) : Int) := by omega
    rw [this]
    rfl
  · intro kn
    unfold p_ring_Inv_l5_F
    dsimp only
    rw [if_neg (by decide)]
  have hr := red_iStage a 7
  refine (iter_run (F := p_ring_Inv_l17_F 300) (s := fun i => ((i : Int), part (fun j => (iStage a 7).getD j 0 * 3303 % 3329) i (iStage a 7), List.replicate 256 0, ())) (y := (fInv a, List.replicate 256 0, ())) 256 ?_ ?_ 300 (by omega)).trans ?_
  · intro i hi kn
    have h0 := hr.2 i
    have ht := at47 (a := (iStage a 7).getD i 0) (b := 3303) (by omega) (by omega)
    unfold p_ring_Inv_l17_F
    simp (disch := omega) only [if_pos, wrap_i64, Int.toNat_natCast, part_getD (Nat.le_refl i), ht, Option.bind_some]
    rw [part_set' (h := fun j => (iStage a 7).getD j 0 * 3303 % 3329) (by rw [hr.1]; omega) rfl]
    rfl
  · intro kn
    unfold p_ring_Inv_l17_F
    dsimp only
    rw [if_neg (by decide), part_all hr.1]
    rfl
  · rfl
theorem at26 {a : List Int} (h : u16s 256 a) : g_ring_Inv (a, ()) = some (fInv a) := Spec_at (ks := p_ring_Inv_ks) (rs := p_ring_Inv_rs) (wf_one.2 h) trivial
end Go.Ax.TryP
/-! ### The transform and its inverse, as mathematics -/
namespace Go.Ax.TryP

/-- Alike modulo 3329. -/
def cg (x y : Int) : Prop := ∃ k : Int, x = y + 3329 * k
theorem cg.refl (x : Int) : cg x x := ⟨0, by omega⟩
theorem cg.of_eq {x y : Int} (h : x = y) : cg x y := by subst h; exact cg.refl _
theorem cg.symm {x y : Int} (h : cg x y) : cg y x := by obtain ⟨k, h⟩ := h; exact ⟨-k, by omega⟩
theorem cg.trans {x y z : Int} (h : cg x y) (g : cg y z) : cg x z := by obtain ⟨k, h⟩ := h; obtain ⟨l, g⟩ := g; exact ⟨k + l, by omega⟩
theorem cg.add {x y z w : Int} (h : cg x y) (g : cg z w) : cg (x + z) (y + w) := by obtain ⟨k, h⟩ := h; obtain ⟨l, g⟩ := g; exact ⟨k + l, by omega⟩
theorem cg.sub {x y z w : Int} (h : cg x y) (g : cg z w) : cg (x - z) (y - w) := by obtain ⟨k, h⟩ := h; obtain ⟨l, g⟩ := g; exact ⟨k - l, by omega⟩
theorem cg.mul {x y z w : Int} (h : cg x y) (g : cg z w) : cg (x * z) (y * w) := by
  obtain ⟨k, h⟩ := h; obtain ⟨l, g⟩ := g
  exact ⟨y * l + k * w + 3329 * (k * l), by subst h; subst g; grind⟩
theorem cg.mod (x : Int) : cg (x % 3329) x := ⟨-(x / 3329), by omega⟩
theorem cg.plus (x : Int) : cg (x + 3329) x := ⟨1, by omega⟩
theorem cg.eq {x y : Int} (h : cg x y) (hx : 0 ≤ x ∧ x < 3329) (hy : 0 ≤ y ∧ y < 3329) : x = y := by obtain ⟨k, h⟩ := h; omega
theorem cg.emod {x y : Int} (h : cg x y) : x % 3329 = y % 3329 := by obtain ⟨k, h⟩ := h; omega

theorem split_at {s m : Nat} (hm : s * m = 128) (hs : 0 < s) {j : Nat} (hj : j < 256) : ∃ b r, b < m ∧ r < s ∧ (j = 2 * s * b + r ∨ j = 2 * s * b + r + s) := by
  have h1 := Nat.div_add_mod j (2 * s)
  have h2 := Nat.mod_lt j (show 2 * s > 0 by omega)
  have hall : 2 * s * m = 256 := by rw [Nat.mul_assoc, hm]
  have hb : j / (2 * s) < m := by rw [Nat.div_lt_iff_lt_mul (by omega), Nat.mul_comm, hall]; exact hj
  by_cases hr : j % (2 * s) < s
  · exact ⟨_, _, hb, hr, .inl h1.symm⟩
  · exact ⟨j / (2 * s), j % (2 * s) - s, hb, by omega, .inr (by omega)⟩

theorem block_le {s m b r : Nat} (hm : s * m = 128) (hb : b < m) (hr : r < s) : 2 * s * b + r + s < 256 := by
  have h1 : s * (b + 1) ≤ s * m := Nat.mul_le_mul_left _ (by omega)
  rw [hm, Nat.mul_add] at h1
  rw [Nat.mul_assoc]
  omega

/-- c x + d y = z, number by number. -/
def lin (c d : Int) (x y z : List Int) : Prop := ∀ i, i < 256 → cg (z.getD i 0) (c * x.getD i 0 + d * y.getD i 0)

theorem nl_lo {s m b r : Nat} (hm : s * m = 128) (hs : 0 < s) (hb : b < m) (hr : r < s) (a : List Int) :
    cg ((nLayer s a).getD (2 * s * b + r) 0) (a.getD (2 * s * b + r) 0 + zeta (m + b) * a.getD (2 * s * b + r + s) 0) := by
  have hl := block_le hm hb hr
  rw [nLayer_eq, poly_getD (by omega), nval_lo hm hs hr]
  exact (cg.mod _).trans ((cg.refl _).add (cg.mod _))
theorem nl_hi {s m b r : Nat} (hm : s * m = 128) (hs : 0 < s) (hb : b < m) (hr : r < s) (a : List Int) :
    cg ((nLayer s a).getD (2 * s * b + r + s) 0) (a.getD (2 * s * b + r) 0 - zeta (m + b) * a.getD (2 * s * b + r + s) 0) := by
  have hl := block_le hm hb hr
  rw [nLayer_eq, poly_getD (by omega), nval_hi hm hs hr]
  exact (cg.mod _).trans ((cg.plus _).sub (cg.mod _))
theorem il_lo {s m b r : Nat} (hm : s * m = 128) (hs : 0 < s) (hb : b < m) (hr : r < s) (a : List Int) :
    cg ((iLayer s a).getD (2 * s * b + r) 0) (a.getD (2 * s * b + r) 0 + a.getD (2 * s * b + r + s) 0) := by
  have hl := block_le hm hb hr
  rw [iLayer, poly_getD (by omega), ival_lo hs hr]
  exact cg.mod _
theorem il_hi {s m b r : Nat} (hm : s * m = 128) (hs : 0 < s) (hb : b < m) (hr : r < s) (a : List Int) :
    cg ((iLayer s a).getD (2 * s * b + r + s) 0) (zeta (2 * m - 1 - b) * (a.getD (2 * s * b + r + s) 0 - a.getD (2 * s * b + r) 0)) := by
  have hl := block_le hm hb hr
  rw [iLayer, poly_getD (by omega), ival_hi hm hs hr]
  exact (cg.mod _).trans ((cg.refl _).mul ((cg.mod _).trans (by
    have := (cg.plus (a.getD (2 * s * b + r + s) 0)).sub (cg.refl (a.getD (2 * s * b + r) 0))
    exact this)))

theorem nl_lin {s m : Nat} (hm : s * m = 128) (hs : 0 < s) {c d : Int} {x y z : List Int} (h : lin c d x y z) : lin c d (nLayer s x) (nLayer s y) (nLayer s z) := by
  intro i hi
  obtain ⟨b, r, hb, hr, hj | hj⟩ := split_at hm hs hi
  · subst hj
    have hl := block_le hm hb hr
    have h1 := h (2 * s * b + r) (by omega)
    have h2 := h (2 * s * b + r + s) (by omega)
    refine (nl_lo hm hs hb hr z).trans ((h1.add ((cg.refl _).mul h2)).trans (cg.symm ?_))
    refine (((cg.refl c).mul (nl_lo hm hs hb hr x)).add ((cg.refl d).mul (nl_lo hm hs hb hr y))).trans (cg.of_eq ?_)
    grind
  · subst hj
    have hl := block_le hm hb hr
    have h1 := h (2 * s * b + r) (by omega)
    have h2 := h (2 * s * b + r + s) (by omega)
    refine (nl_hi hm hs hb hr z).trans ((h1.sub ((cg.refl _).mul h2)).trans (cg.symm ?_))
    refine (((cg.refl c).mul (nl_hi hm hs hb hr x)).add ((cg.refl d).mul (nl_hi hm hs hb hr y))).trans (cg.of_eq ?_)
    grind
theorem il_lin {s m : Nat} (hm : s * m = 128) (hs : 0 < s) {c d : Int} {x y z : List Int} (h : lin c d x y z) : lin c d (iLayer s x) (iLayer s y) (iLayer s z) := by
  intro i hi
  obtain ⟨b, r, hb, hr, hj | hj⟩ := split_at hm hs hi
  · subst hj
    have hl := block_le hm hb hr
    have h1 := h (2 * s * b + r) (by omega)
    have h2 := h (2 * s * b + r + s) (by omega)
    refine (il_lo hm hs hb hr z).trans ((h1.add h2).trans (cg.symm ?_))
    refine (((cg.refl c).mul (il_lo hm hs hb hr x)).add ((cg.refl d).mul (il_lo hm hs hb hr y))).trans (cg.of_eq ?_)
    grind
  · subst hj
    have hl := block_le hm hb hr
    have h1 := h (2 * s * b + r) (by omega)
    have h2 := h (2 * s * b + r + s) (by omega)
    refine (il_hi hm hs hb hr z).trans (((cg.refl _).mul (h2.sub h1)).trans (cg.symm ?_))
    refine (((cg.refl c).mul (il_hi hm hs hb hr x)).add ((cg.refl d).mul (il_hi hm hs hb hr y))).trans (cg.of_eq ?_)
    grind

theorem zeta_pairs : (List.range 7).all (fun t => (List.range (2 ^ t)).all fun b => zeta (2 * 2 ^ t - 1 - b) * zeta (2 ^ t + b) % 3329 == 3328) = true := by decide +kernel
theorem zeta_pair {t b : Nat} (ht : t < 7) (hb : b < 2 ^ t) : cg (zeta (2 * 2 ^ t - 1 - b) * zeta (2 ^ t + b)) (-1) := by
  have h1 := List.all_eq_true.1 zeta_pairs t (List.mem_range.2 ht)
  have h2 := List.all_eq_true.1 h1 b (List.mem_range.2 hb)
  have h3 := eq_of_beq h2
  exact ⟨(zeta (2 * 2 ^ t - 1 - b) * zeta (2 ^ t + b)) / 3329 + 1, by omega⟩

theorem il_nl {s t : Nat} (ht : t < 7) (hm : s * 2 ^ t = 128) (hs : 0 < s) (x : List Int) : lin 2 0 x x (iLayer s (nLayer s x)) := by
  intro i hi
  obtain ⟨b, r, hb, hr, hj | hj⟩ := split_at hm hs hi
  · subst hj
    refine (il_lo hm hs hb hr _).trans (((nl_lo hm hs hb hr x).add (nl_hi hm hs hb hr x)).trans (cg.of_eq ?_))
    grind
  · subst hj
    refine (il_hi hm hs hb hr _).trans (((cg.refl _).mul ((nl_hi hm hs hb hr x).sub (nl_lo hm hs hb hr x))).trans ?_)
    have hz := (zeta_pair ht hb).mul (cg.refl (-2 * x.getD (2 * s * b + r + s) 0))
    refine (cg.of_eq ?_).trans (hz.trans (cg.of_eq ?_)) <;> grind
theorem nl_il {s t : Nat} (ht : t < 7) (hm : s * 2 ^ t = 128) (hs : 0 < s) (x : List Int) : lin 2 0 x x (nLayer s (iLayer s x)) := by
  intro i hi
  obtain ⟨b, r, hb, hr, hj | hj⟩ := split_at hm hs hi
  · subst hj
    refine (nl_lo hm hs hb hr _).trans (((il_lo hm hs hb hr x).add ((cg.refl _).mul (il_hi hm hs hb hr x))).trans ?_)
    have hz := (zeta_pair ht hb).mul (cg.refl (x.getD (2 * s * b + r + s) 0 - x.getD (2 * s * b + r) 0))
    refine (cg.of_eq ?_).trans (((cg.refl (x.getD (2 * s * b + r) 0 + x.getD (2 * s * b + r + s) 0)).add hz).trans (cg.of_eq ?_)) <;> grind
  · subst hj
    refine (nl_hi hm hs hb hr _).trans (((il_lo hm hs hb hr x).sub ((cg.refl _).mul (il_hi hm hs hb hr x))).trans ?_)
    have hz := (zeta_pair ht hb).mul (cg.refl (x.getD (2 * s * b + r + s) 0 - x.getD (2 * s * b + r) 0))
    refine (cg.of_eq ?_).trans (((cg.refl (x.getD (2 * s * b + r) 0 + x.getD (2 * s * b + r + s) 0)).sub hz).trans (cg.of_eq ?_)) <;> grind
end Go.Ax.TryP
