/- A part of the proof: RingS5, RingP5, RingQ14, RingQ15, RingP6, RingQ16. -/
import Derived.Test.YtefpbeklpfihfaaRingC
namespace Go.Ax.TryP
noncomputable def g_ref13_Ntt : List Int × Unit → Option (List Int) := Spec (ks := [.xs (.int .u16) 256]) (rs := [.xs (.int .u16) 256]) (fun _ => True) fun x => fNtt x.1
noncomputable def g_ref13_Inv : List Int × Unit → Option (List Int) := Spec (ks := [.xs (.int .u16) 256]) (rs := [.xs (.int .u16) 256]) (fun _ => True) fun x => fInv x.1
noncomputable def g_law13_RingNtts : List Int × Unit → Option Bool := Spec (ks := [.xs (.int .u16) 256]) (rs := [.bool]) (fun _ => True) fun _ => true
end Go.Ax.TryP
/-! Printed by program (gen.py). -/
set_option linter.unusedVariables false
namespace Go.Ax.TryP
/-! livery/liveryref13.Ntt -/
noncomputable def p_ref13_Ntt_E : AE := AE.of [(3, ty3), (22, ty22), (24, ty24)] [(48, ⟨[.int .i64], [.int .i64], g_ref13_Root⟩)]
noncomputable def p_ref13_Ntt_H : Hints := [(3, [1, 2, 3, 9]), (8, [1, 2, 3, 4, 5, 6, 7, 8, 9]), (2000000, [2, 3]), (2000001, [1, 2, 3, 9]), (2000002, [1, 2, 3, 4, 6, 7, 9]), (2000003, [1, 2, 3, 4, 5, 6, 7, 8, 9]), (3000000, [2])]
noncomputable def p_ref13_Ntt_c : Code := (Go.Proofs.Try.f25).body.getD .skip
noncomputable def p_ref13_Ntt_l8_S : Shape where
  h := { tmps := [.any, .sc (.ptr 0 0 false), .sc (.ptr 1 0 false), .sc (.ptr 2 0 false), .sc (.int .i64), .sc (.int .i64), .sc (.int .i64), .sc (.int .i64), .sc (.int .i64), .sc (.int .i64), .any, .any, .any, .any, .any, .any, .any, .any, .any, .any, .any, .any, .any, .any, .any, .any, .any, .any, .any, .any, .any, .any, .any, .any, .any, .any, .any, .any, .any, .any, .any, .any, .any, .any, .any, .any, .any, .any, .any, .any, .any, .any], mem := [.live [.xs (.int .u16) (some 256)] true, .live [.xs (.int .u16) (some 256)] true, .live [.xs (.int .u16) (some 256)] true] }
  ks := [.int, .int, .int, .int, .int, .int, .xs, .xs, .xs]
  st := fun x => { tmps := [.one .any, .one (.sc (.ptr 0 0 none)), .one (.sc (.ptr 1 0 none)), .one (.sc (.ptr 2 0 none)), .one (.sc (.int .i64 x.1)), .one (.sc (.int .i64 x.2.1)), .one (.sc (.int .i64 x.2.2.1)), .one (.sc (.int .i64 x.2.2.2.1)), .one (.sc (.int .i64 x.2.2.2.2.1)), .one (.sc (.int .i64 x.2.2.2.2.2.1)), .one .any, .one .any, .one .any, .one .any, .one .any, .one .any, .one .any, .one .any, .one .any, .one .any, .one .any, .one .any, .one .any, .one .any, .one .any, .one .any, .one .any, .one .any, .one .any, .one .any, .one .any, .one .any, .one .any, .one .any, .one .any, .one .any, .one .any, .one .any, .one .any, .one .any, .one .any, .one .any, .one .any, .one .any, .one .any, .one .any, .one .any, .one .any, .one .any, .one .any, .one .any, .one .any], mem := [.live { segs := [.xs (.int .u16) 256 x.2.2.2.2.2.2.1], own := true }, .live { segs := [.xs (.int .u16) 256 x.2.2.2.2.2.2.2.1], own := true }, .live { segs := [.xs (.int .u16) 256 x.2.2.2.2.2.2.2.2.1], own := true }] }
noncomputable def p_ref13_Ntt_l8_F (N : Nat) (β : Type) (x : (Int × Int × Int × Int × Int × Int × List Int × List Int × List Int × Unit)) (kn : (Int × Int × Int × Int × Int × Int × List Int × List Int × List Int × Unit) → Option β) (ke : ((Int × Int × Int × Int × List Int × List Int × List Int × Unit)) → Option β) : Option β :=
  if (x.2.2.2.2.1 ≥ (0:Int)) then
    if 0 ≤ (IntKind.i64.wrap ((2:Int) * x.2.2.2.2.1)) then (
    if (IntKind.i64.wrap ((2:Int) * x.2.2.2.2.1)) < 256 then (
    if ((IntKind.i64.wrap ((2:Int) * x.2.2.2.2.1)).toNat) < 256 then (
    if 0 ≤ (IntKind.i64.wrap ((IntKind.i64.wrap ((2:Int) * x.2.2.2.2.1)) + (1:Int))) then (
    if (IntKind.i64.wrap ((IntKind.i64.wrap ((2:Int) * x.2.2.2.2.1)) + (1:Int))) < 256 then (
    if ((IntKind.i64.wrap ((IntKind.i64.wrap ((2:Int) * x.2.2.2.2.1)) + (1:Int))).toNat) < 256 then (
    kn (x.1, x.2.1, (Int.tmod (IntKind.i64.wrap ((IntKind.i64.wrap (x.2.2.1 * x.2.1)) + (IntKind.i64.wrap (List.getD x.2.2.2.2.2.2.1 ((IntKind.i64.wrap ((2:Int) * x.2.2.2.2.1)).toNat) 0)))) (3329:Int)), (Int.tmod (IntKind.i64.wrap ((IntKind.i64.wrap (x.2.2.2.1 * x.2.1)) + (IntKind.i64.wrap (List.getD x.2.2.2.2.2.2.1 ((IntKind.i64.wrap ((IntKind.i64.wrap ((2:Int) * x.2.2.2.2.1)) + (1:Int))).toNat) 0)))) (3329:Int)), (IntKind.i64.wrap (x.2.2.2.2.1 - (1:Int))), x.2.2.2.2.2.1, x.2.2.2.2.2.2.1, x.2.2.2.2.2.2.2.1, x.2.2.2.2.2.2.2.2.1, ())) else none) else none) else none) else none) else none) else none
  else
    ke (x.1, x.2.2.1, x.2.2.2.1, x.2.2.2.2.2.1, x.2.2.2.2.2.2.1, x.2.2.2.2.2.2.2.1, x.2.2.2.2.2.2.2.2.1, ())
noncomputable def p_ref13_Ntt_l8_go : Go' ((Int × Int × Int × Int × List Int × List Int × List Int × Unit)) := fun y K => K (.exit 2) { tmps := [.one .any, .one (.sc (.ptr 0 0 none)), .one (.sc (.ptr 1 0 none)), .one (.sc (.ptr 2 0 none)), .one (.sc (.int .i64 y.1)), .one .any, .one (.sc (.int .i64 y.2.1)), .one (.sc (.int .i64 y.2.2.1)), .one .any, .one (.sc (.int .i64 y.2.2.2.1)), .one .any, .one .any, .one .any, .one .any, .one .any, .one .any, .one .any, .one .any, .one .any, .one .any, .one .any, .one .any, .one .any, .one .any, .one .any, .one .any, .one .any, .one .any, .one .any, .one .any, .one .any, .one .any, .one .any, .one .any, .one .any, .one .any, .one .any, .one .any, .one .any, .one .any, .one .any, .one .any, .one .any, .one .any, .one .any, .one .any, .one .any, .one .any, .one .any, .one .any, .one .any, .one .any], mem := [.live { segs := [.xs (.int .u16) 256 y.2.2.2.2.1], own := true }, .live { segs := [.xs (.int .u16) 256 y.2.2.2.2.2.1], own := true }, .live { segs := [.xs (.int .u16) 256 y.2.2.2.2.2.2.1], own := true }] }
noncomputable def p_ref13_Ntt_l8_L (N : Nat) : LT := upd (LT.nil) 8 (loopE p_ref13_Ntt_l8_S N (p_ref13_Ntt_l8_F N) p_ref13_Ntt_l8_go)
theorem p_ref13_Ntt_l8_ok (N : Nat) : OkAll p_ref13_Ntt_E p_ref13_Ntt_H N (p_ref13_Ntt_l8_L N) (subs p_ref13_Ntt_c) :=
  addLoop (c := theLoop 8 p_ref13_Ntt_c) (OkAll.nil) (by kernel_rfl) (fun x => by kernel_rfl) (fun β x kn ke => by kernel_rfl)
noncomputable def p_ref13_Ntt_l3_S : Shape where
  h := { tmps := [.any, .sc (.ptr 0 0 false), .sc (.ptr 1 0 false), .sc (.ptr 2 0 false), .any, .any, .any, .any, .any, .sc (.int .i64), .any, .any, .any, .any, .any, .any, .any, .any, .any, .any, .any, .any, .any, .any, .any, .any, .any, .any, .any, .any, .any, .any, .any, .any, .any, .any, .any, .any, .any, .any, .any, .any, .any, .any, .any, .any, .any, .any, .any, .any, .any, .any], mem := [.live [.xs (.int .u16) (some 256)] true, .live [.xs (.int .u16) (some 256)] true, .live [.xs (.int .u16) (some 256)] true] }
  ks := [.int, .xs, .xs, .xs]
  st := fun x => { tmps := [.one .any, .one (.sc (.ptr 0 0 none)), .one (.sc (.ptr 1 0 none)), .one (.sc (.ptr 2 0 none)), .one .any, .one .any, .one .any, .one .any, .one .any, .one (.sc (.int .i64 x.1)), .one .any, .one .any, .one .any, .one .any, .one .any, .one .any, .one .any, .one .any, .one .any, .one .any, .one .any, .one .any, .one .any, .one .any, .one .any, .one .any, .one .any, .one .any, .one .any, .one .any, .one .any, .one .any, .one .any, .one .any, .one .any, .one .any, .one .any, .one .any, .one .any, .one .any, .one .any, .one .any, .one .any, .one .any, .one .any, .one .any, .one .any, .one .any, .one .any, .one .any, .one .any, .one .any], mem := [.live { segs := [.xs (.int .u16) 256 x.2.1], own := true }, .live { segs := [.xs (.int .u16) 256 x.2.2.1], own := true }, .live { segs := [.xs (.int .u16) 256 x.2.2.2.1], own := true }] }
noncomputable def p_ref13_Ntt_l3_F (N : Nat) (β : Type) (x : (Int × List Int × List Int × List Int × Unit)) (kn : (Int × List Int × List Int × List Int × Unit) → Option β) (ke : ((List Int × List Int × Unit)) → Option β) : Option β :=
  if (x.1 < (128:Int)) then
    (g_ref13_Root (x.1, ())).bind fun r1 => (
    iter (p_ref13_Ntt_l8_F N) N (x.1, r1, (0:Int), (0:Int), (127:Int), x.1, x.2.1, x.2.2.1, x.2.2.2.1, ()) fun y2 => (
    if 0 ≤ (IntKind.i64.wrap ((2:Int) * y2.1)) then (
    if (IntKind.i64.wrap ((2:Int) * y2.1)) < 256 then (
    if ((IntKind.i64.wrap ((2:Int) * y2.1)).toNat) < 256 then (
    if 0 ≤ (IntKind.i64.wrap ((IntKind.i64.wrap ((2:Int) * y2.1)) + (1:Int))) then (
    if (IntKind.i64.wrap ((IntKind.i64.wrap ((2:Int) * y2.1)) + (1:Int))) < 256 then (
    if ((IntKind.i64.wrap ((IntKind.i64.wrap ((2:Int) * y2.1)) + (1:Int))).toNat) < 256 then (
    kn ((IntKind.i64.wrap (y2.2.2.2.1 + (1:Int))), y2.2.2.2.2.1, y2.2.2.2.2.2.1, (List.set (List.set y2.2.2.2.2.2.2.1 ((IntKind.i64.wrap ((2:Int) * y2.1)).toNat) (IntKind.u16.wrap y2.2.1)) ((IntKind.i64.wrap ((IntKind.i64.wrap ((2:Int) * y2.1)) + (1:Int))).toNat) (IntKind.u16.wrap y2.2.2.1)), ())) else none) else none) else none) else none) else none) else none))
  else
    ke (x.2.2.1, x.2.2.2.1, ())
noncomputable def p_ref13_Ntt_l3_go : Go' ((List Int × List Int × Unit)) := fun y K => K (.exit 0) { tmps := [.one .any, .one .any, .one (.sc (.ptr 0 0 none)), .one (.sc (.ptr 1 0 none)), .one .any, .one .any, .one .any, .one .any, .one .any, .one .any, .one .any, .one .any, .one .any, .one .any, .one .any, .one .any, .one .any, .one .any, .one .any, .one .any, .one .any, .one .any, .one .any, .one .any, .one .any, .one .any, .one .any, .one .any, .one .any, .one .any, .one .any, .one .any, .one .any, .one .any, .one .any, .one .any, .one .any, .one .any, .one .any, .one .any, .one .any, .one .any, .one .any, .one .any, .one .any, .one .any, .one .any, .one .any, .one .any, .one .any, .one .any, .one .any], mem := [.live { segs := [.xs (.int .u16) 256 y.1], own := true }, .live { segs := [.xs (.int .u16) 256 y.2.1], own := true }] }
noncomputable def p_ref13_Ntt_l3_L (N : Nat) : LT := upd (p_ref13_Ntt_l8_L N) 3 (loopE p_ref13_Ntt_l3_S N (p_ref13_Ntt_l3_F N) p_ref13_Ntt_l3_go)
theorem p_ref13_Ntt_l3_ok (N : Nat) : OkAll p_ref13_Ntt_E p_ref13_Ntt_H N (p_ref13_Ntt_l3_L N) (subs p_ref13_Ntt_c) :=
  addLoop (c := theLoop 3 p_ref13_Ntt_c) (p_ref13_Ntt_l8_ok N) (by kernel_rfl) (fun x => by kernel_rfl) (fun β x kn ke => by kernel_rfl)
abbrev p_ref13_Ntt_ks : List Kd := [.xs (.int .u16) 256]
abbrev p_ref13_Ntt_rs : List Kd := [.xs (.int .u16) 256]
noncomputable def p_ref13_Ntt (N : Nat) (x : List Int × Unit) : Option (List Int) :=
  iter (p_ref13_Ntt_l3_F N) N ((0:Int), x.1, (List.replicate 256 0), (List.replicate 256 0), ()) fun y3 => (
  some y3.2.1)
theorem p_ref13_Ntt_eq (N : Nat) (x : Ds [.xs (.int .u16) 256]) : funL p_ref13_Ntt_E p_ref13_Ntt_H (p_ref13_Ntt_l3_L N) N Go.Proofs.Try.f25 p_ref13_Ntt_c [.xs (.int .u16) 256] [.xs (.int .u16) 256] x = p_ref13_Ntt N x := by kernel_rfl
theorem p_ref13_Ntt_Eok (he_ref13_Root : SigOk Go.Proofs.Try.prog 48 ⟨[.int .i64], [.int .i64], g_ref13_Root⟩) : p_ref13_Ntt_E.Ok Go.Proofs.Try.prog := AE.of_ok (all_cons ty3_ok (all_cons ty22_ok (all_cons ty24_ok all_nil))) (all_cons ⟨he_ref13_Root, enters_ref13_Root⟩ all_nil)
theorem p_ref13_Ntt_ok (he_ref13_Root : SigOk Go.Proofs.Try.prog 48 ⟨[.int .i64], [.int .i64], g_ref13_Root⟩) {g : Ds [.xs (.int .u16) 256] → Option (Rs [.xs (.int .u16) 256])} (hg : ∀ x r, g x = some r → ∃ N, p_ref13_Ntt N x = some r) : SigOk Go.Proofs.Try.prog 25 ⟨[.xs (.int .u16) 256], [.xs (.int .u16) 256], g⟩ :=
  fun_of (E := p_ref13_Ntt_E) (H := p_ref13_Ntt_H) (L := fun N => p_ref13_Ntt_l3_L N) (c := p_ref13_Ntt_c) (ks := p_ref13_Ntt_ks) (rs := p_ref13_Ntt_rs) (F := p_ref13_Ntt) (p_ref13_Ntt_Eok he_ref13_Root) mix Go.Proofs.Try.func25 (by kernel_rfl) (fun N => p_ref13_Ntt_l3_ok N) p_ref13_Ntt_eq hg

/-! livery/liverylaw13.RingNtts -/
noncomputable def p_law13_RingNtts_E : AE := AE.of [(22, ty22), (24, ty24)] [(18, ⟨[], [.bool], g_law13_live⟩), (24, ⟨[.xs (.int .u16) 256], [.xs (.int .u16) 256], g_ring_Ntt⟩), (25, ⟨[.xs (.int .u16) 256], [.xs (.int .u16) 256], g_ref13_Ntt⟩), (26, ⟨[.xs (.int .u16) 256], [.xs (.int .u16) 256], g_ring_Inv⟩), (27, ⟨[.xs (.int .u16) 256], [.xs (.int .u16) 256], g_ref13_Inv⟩)]
noncomputable def p_law13_RingNtts_H : Hints := [(3000000, [2])]
noncomputable def p_law13_RingNtts_c : Code := (Go.Proofs.Try.f7).body.getD .skip
abbrev p_law13_RingNtts_ks : List Kd := [.xs (.int .u16) 256]
abbrev p_law13_RingNtts_rs : List Kd := [.bool]
noncomputable def p_law13_RingNtts (N : Nat) (x : List Int × Unit) : Option (Bool) :=
  (g_law13_live (())).bind fun r1 => (
  if (r1 = true) then
    (g_ring_Ntt (x.1, ())).bind fun r2 => (
    (g_ref13_Ntt (x.1, ())).bind fun r3 => (
    if (r2 = r3) then
      (g_ring_Inv (x.1, ())).bind fun r4 => (
      (g_ref13_Inv (x.1, ())).bind fun r5 => (
      some (decide (r4 = r5))))
    else
      some false))
  else
    some false)
theorem p_law13_RingNtts_eq (N : Nat) (x : Ds [.xs (.int .u16) 256]) : funL p_law13_RingNtts_E p_law13_RingNtts_H (LT.nil) N Go.Proofs.Try.f7 p_law13_RingNtts_c [.xs (.int .u16) 256] [.bool] x = p_law13_RingNtts N x := by kernel_rfl
theorem p_law13_RingNtts_Eok (he_law13_live : SigOk Go.Proofs.Try.prog 18 ⟨[], [.bool], g_law13_live⟩) (he_ring_Ntt : SigOk Go.Proofs.Try.prog 24 ⟨[.xs (.int .u16) 256], [.xs (.int .u16) 256], g_ring_Ntt⟩) (he_ref13_Ntt : SigOk Go.Proofs.Try.prog 25 ⟨[.xs (.int .u16) 256], [.xs (.int .u16) 256], g_ref13_Ntt⟩) (he_ring_Inv : SigOk Go.Proofs.Try.prog 26 ⟨[.xs (.int .u16) 256], [.xs (.int .u16) 256], g_ring_Inv⟩) (he_ref13_Inv : SigOk Go.Proofs.Try.prog 27 ⟨[.xs (.int .u16) 256], [.xs (.int .u16) 256], g_ref13_Inv⟩) : p_law13_RingNtts_E.Ok Go.Proofs.Try.prog := AE.of_ok (all_cons ty22_ok (all_cons ty24_ok all_nil)) (all_cons ⟨he_law13_live, enters_law13_live⟩ (all_cons ⟨he_ring_Ntt, enters_ring_Ntt⟩ (all_cons ⟨he_ref13_Ntt, enters_ref13_Ntt⟩ (all_cons ⟨he_ring_Inv, enters_ring_Inv⟩ (all_cons ⟨he_ref13_Inv, enters_ref13_Inv⟩ all_nil)))))
theorem p_law13_RingNtts_ok (he_law13_live : SigOk Go.Proofs.Try.prog 18 ⟨[], [.bool], g_law13_live⟩) (he_ring_Ntt : SigOk Go.Proofs.Try.prog 24 ⟨[.xs (.int .u16) 256], [.xs (.int .u16) 256], g_ring_Ntt⟩) (he_ref13_Ntt : SigOk Go.Proofs.Try.prog 25 ⟨[.xs (.int .u16) 256], [.xs (.int .u16) 256], g_ref13_Ntt⟩) (he_ring_Inv : SigOk Go.Proofs.Try.prog 26 ⟨[.xs (.int .u16) 256], [.xs (.int .u16) 256], g_ring_Inv⟩) (he_ref13_Inv : SigOk Go.Proofs.Try.prog 27 ⟨[.xs (.int .u16) 256], [.xs (.int .u16) 256], g_ref13_Inv⟩) {g : Ds [.xs (.int .u16) 256] → Option (Rs [.bool])} (hg : ∀ x r, g x = some r → ∃ N, p_law13_RingNtts N x = some r) : SigOk Go.Proofs.Try.prog 7 ⟨[.xs (.int .u16) 256], [.bool], g⟩ :=
  fun_of (E := p_law13_RingNtts_E) (H := p_law13_RingNtts_H) (L := fun N => LT.nil) (c := p_law13_RingNtts_c) (ks := p_law13_RingNtts_ks) (rs := p_law13_RingNtts_rs) (F := p_law13_RingNtts) (p_law13_RingNtts_Eok he_law13_live he_ring_Ntt he_ref13_Ntt he_ring_Inv he_ref13_Inv) mix Go.Proofs.Try.func7 (by kernel_rfl) (fun N => OkAll.nil) p_law13_RingNtts_eq hg
end Go.Ax.TryP
/-! ### The transform, as the document reckons it -/
namespace Go.Ax.TryP

theorem sum_front (n : Nat) (f : Nat → Int) : sum (n + 1) f = f 0 + sum n fun i => f (i + 1) := by
  induction n with
  | zero => simp [sum]
  | succ n ih => rw [sum, ih, sum]; omega
def hor (a : List Int) (e : Nat) (g : Int) (r : Nat) : Int := sum r fun v => a.getD (2 * (128 - r + v) + e) 0 * g ^ v
theorem hor_succ (a : List Int) (e : Nat) (g : Int) {r : Nat} (hr : r < 128) : hor a e g (r + 1) = hor a e g r * g + a.getD (2 * (127 - r) + e) 0 := by
  unfold hor
  rw [sum_front, ← sum_mul_right]
  rw [sum_congr (n := r) (f := fun i => a.getD (2 * (128 - (r + 1) + (i + 1)) + e) 0 * g ^ (i + 1)) (g := fun i => a.getD (2 * (128 - r + i) + e) 0 * g ^ i * g) (fun i _ => by
    rw [show 128 - (r + 1) + (i + 1) = 128 - r + i by omega, Int.pow_succ, Int.mul_assoc])]
  rw [Int.pow_zero, Int.mul_one, show 128 - (r + 1) + 0 = 127 - r by omega]
  omega
theorem hor_all (a : List Int) (e : Nat) (g : Int) : hor a e g 128 = ev a 128 2 e g := by
  unfold hor ev
  exact sum_congr fun v _ => by rw [show 2 * (128 - 128 + v) + e = v * 2 + e by omega]
theorem fNtt_at (a : List Int) {i e : Nat} (hi : i < 128) (he : e < 2) : (fNtt a).getD (2 * i + e) 0 = hor a e (root i) 128 % 3329 := by
  have h := ntt_ev a hi he
  have hs : cg (ev (fRed a) 128 2 e (root i)) (ev a 128 2 e (root i)) := sum_cg fun j hj => (red_at (by omega) a).mul (cg.refl _)
  rw [hor_all]
  exact cg.eq (h.trans (hs.trans (cg.mod _).symm)) ((red_fNtt a).2 _) (by omega)

theorem q_ref13_Ntt : ∀ x r, g_ref13_Ntt x = some r → ∃ N, p_ref13_Ntt N x = some r := by
  refine Spec_of (ks := p_ref13_Ntt_ks) (rs := p_ref13_Ntt_rs) fun x hw _ => ⟨300, ?_⟩
  obtain ⟨(a : List Int), u⟩ := x
  have ha := wf_one.1 hw
  have hr := red_fNtt a
  unfold p_ref13_Ntt
  refine (iter_run (F := p_ref13_Ntt_l3_F 300) (s := fun i => ((i : Int), a, List.replicate 256 0, part (fun j => (fNtt a).getD j 0) (2 * i) (List.replicate 256 0), ())) (y := (List.replicate 256 0, fNtt a, ())) 128 ?_ ?_ 300 (by omega)).trans ?_
  · intro i hi kn
    have hg := root_bound i
    have t1 := at48 (n := (i : Int)) (by omega)
    rw [Int.toNat_natCast] at t1
    unfold p_ref13_Ntt_l3_F
    dsimp only
    rw [if_pos (by omega), t1]
    simp only [Option.bind_some]
    refine (iter_run (F := p_ref13_Ntt_l8_F 300) (s := fun r => ((i : Int), root i, hor a 0 (root i) r % 3329, hor a 1 (root i) r % 3329, (127 : Int) - (r : Int), (i : Int), a, List.replicate 256 0, part (fun j => (fNtt a).getD j 0) (2 * i) (List.replicate 256 0), ())) (y := ((i : Int), hor a 0 (root i) 128 % 3329, hor a 1 (root i) 128 % 3329, (i : Int), a, List.replicate 256 0, part (fun j => (fNtt a).getD j 0) (2 * i) (List.replicate 256 0), ())) 128 ?_ ?_ 300 (by omega)).trans ?_
    · intro r hr kn
      have s0 := hor_succ a 0 (root i) hr
      have s1 := hor_succ a 1 (root i) hr
      have h1 := ha.at (2 * (127 - r)); have h2 := ha.at (2 * (127 - r) + 1)
      have ec : 2 * ((127 : Int) - (r : Int)) = ((2 * (127 - r) : Nat) : Int) := by omega
      have ec2 : ((2 * (127 - r) : Nat) : Int) + 1 = ((2 * (127 - r) + 1 : Nat) : Int) := by omega
      have ez : (127 : Int) - (r : Int) - 1 = 127 - ((r + 1 : Nat) : Int) := by omega
      have m0 := mul_bound (a := hor a 0 (root i) r % 3329) (b := root i) (by omega) hg
      have m1 := mul_bound (a := hor a 1 (root i) r % 3329) (b := root i) (by omega) hg
      have f0 : (hor a 0 (root i) r % 3329 * root i + a.getD (2 * (127 - r)) 0) % 3329 = hor a 0 (root i) (r + 1) % 3329 := by
        rw [s0]; exact (((cg.mod _).mul (cg.refl _)).add (cg.refl _)).emod
      have f1 : (hor a 1 (root i) r % 3329 * root i + a.getD (2 * (127 - r) + 1) 0) % 3329 = hor a 1 (root i) (r + 1) % 3329 := by
        rw [s1]; exact (((cg.mod _).mul (cg.refl _)).add (cg.refl _)).emod
      unfold p_ref13_Ntt_l8_F
      simp (disch := omega) only [if_pos, wrap_i64, ec, ec2, Int.toNat_natCast, tmod_pos, f0, f1, ez]
    · intro kn
      unfold p_ref13_Ntt_l8_F
      dsimp only
      rw [if_neg (by decide)]
    · have c1 : 2 * (i : Int) = ((2 * i : Nat) : Int) := by omega
      have c2 : ((2 * i : Nat) : Int) + 1 = ((2 * i + 1 : Nat) : Int) := by omega
      have n0 := fNtt_at a hi (show 0 < 2 by omega)
      have n1 := fNtt_at a hi (show 1 < 2 by omega)
      simp (disch := omega) only [if_pos, wrap_i64, c1, c2, Int.toNat_natCast, wrap_u16]
      rw [part_set' (h := fun j => (fNtt a).getD j 0) (i := 2 * i) (by rw [List.length_replicate]; omega) n0.symm, part_set' (h := fun j => (fNtt a).getD j 0) (i := 2 * i + 1) (by rw [List.length_replicate]; omega) n1.symm]
      rfl
  · intro kn
    unfold p_ref13_Ntt_l3_F
    dsimp only
    rw [if_neg (by decide)]
    rw [part_all (n := 2 * 128) (by rw [List.length_replicate])]
    have : (List.range (2 * 128)).map (fun j => (fNtt a).getD j 0) = fNtt a := poly_self hr.1
    rw [this]
  · rfl
theorem at25 {a : List Int} (h : u16s 256 a) : g_ref13_Ntt (a, ()) = some (fNtt a) := Spec_at (ks := p_ref13_Ntt_ks) (rs := p_ref13_Ntt_rs) (wf_one.2 h) trivial
theorem s_ref13_Ntt : SigOk Go.Proofs.Try.prog 25 ⟨p_ref13_Ntt_ks, p_ref13_Ntt_rs, g_ref13_Ntt⟩ := p_ref13_Ntt_ok s_ref13_Root q_ref13_Ntt
end Go.Ax.TryP
/-! ### The transform's inverse, as the document reckons it: the mathematics -/
namespace Go.Ax.TryP

def gH (x : Int) : Nat → Int
  | 0 => 0
  | n + 1 => (gH x n * x + 1) % 3329
theorem gH_sum (x : Int) : ∀ n, cg (gH x n) (sum n fun j => x ^ j)
  | 0 => cg.refl _
  | n + 1 => by
    rw [sum_front, sum_congr (n := n) (f := fun i => x ^ (i + 1)) (g := fun i => x ^ i * x) (fun i _ => Int.pow_succ x i), sum_mul_right, Int.pow_zero, Int.add_comm]
    exact (cg.mod _).trans (((gH_sum x n).mul (cg.refl x)).add (cg.refl 1))
theorem geo_all : (List.range 127).all (fun m => gH (289 ^ (m + 1) % 3329) 128 == 0) = true := by decide +kernel
theorem geo_zero {m : Nat} (h0 : 0 < m) (h1 : m < 128) : cg (sum 128 fun j => ((289 : Int) ^ m) ^ j) 0 := by
  have h := List.all_eq_true.1 geo_all (m - 1) (List.mem_range.2 (by omega))
  rw [show m - 1 + 1 = m by omega] at h
  have h := eq_of_beq h
  have hs := gH_sum ((289 : Int) ^ m % 3329) 128
  rw [h] at hs
  exact (sum_cg fun j _ => (cg.mod _).symm.pow j).trans hs.symm
theorem rev7_all : (List.range 128).all (fun i => Nat.blt (rev7 i) 128 && rev7 (rev7 i) == i) = true := by decide +kernel
theorem rev7_lt {i : Nat} (h : i < 128) : rev7 i < 128 ∧ rev7 (rev7 i) = i := by
  have h := List.all_eq_true.1 rev7_all i (List.mem_range.2 h)
  rw [Bool.and_eq_true] at h
  exact ⟨blt_t h.1, eq_of_beq h.2⟩
theorem rev7_inj {i k : Nat} (hi : i < 128) (hk : k < 128) (h : rev7 i = rev7 k) : i = k := by
  rw [← (rev7_lt hi).2, h, (rev7_lt hk).2]
def ri (k : Nat) : Int := root k ^ 255 % 3329
theorem ri_bound (k : Nat) : 0 ≤ ri k ∧ ri k < 3329 := by unfold ri; omega
theorem p289 (n : Nat) : cg ((289 : Int) ^ n) (289 ^ (n % 128)) := by
  have h128 : cg ((289 : Int) ^ 128) 1 := ⟨(289 ^ 128 - 1) / 3329, by decide +kernel⟩
  have h1 : ∀ k, cg (((289 : Int) ^ 128) ^ k) 1 := fun k => by
    have := h128.pow k
    rwa [Int.one_pow] at this
  have e : (289 : Int) ^ n = (289 ^ 128) ^ (n / 128) * 289 ^ (n % 128) := by
    rw [← Int.pow_mul, ← Int.pow_add, Nat.div_add_mod]
  rw [e]
  have := (h1 (n / 128)).mul (cg.refl ((289 : Int) ^ (n % 128)))
  rwa [Int.one_mul] at this
theorem root_ri (i k : Nat) : cg (root i * ri k) (289 ^ ((rev7 i + 255 * rev7 k + 128) % 128)) := by
  have h1 : cg (root i) (17 ^ (2 * rev7 i + 1)) := cg.mod _
  have h2 : cg (ri k) ((17 ^ (2 * rev7 k + 1)) ^ 255) := (cg.mod _).trans ((cg.mod _).pow 255)
  refine (h1.mul h2).trans ?_
  rw [← Int.pow_mul, ← Int.pow_add, show 2 * rev7 i + 1 + (2 * rev7 k + 1) * 255 = 2 * (rev7 i + 255 * rev7 k + 128) by omega, Int.pow_mul]
  exact p289 _
theorem orth {i k : Nat} (hi : i < 128) (hk : k < 128) : cg (sum 128 fun j => (root i * ri k) ^ j) (if k = i then 128 else 0) := by
  have h := root_ri i k
  obtain ⟨b1, _⟩ := rev7_lt hi
  obtain ⟨b2, _⟩ := rev7_lt hk
  by_cases e : k = i
  · subst e
    rw [if_pos rfl]
    have e0 : (rev7 k + 255 * rev7 k + 128) % 128 = 0 := by omega
    rw [e0, Int.pow_zero] at h
    refine (sum_cg fun j _ => h.pow j).trans (cg.of_eq ?_)
    rw [sum_congr (n := 128) (f := fun j => (1 : Int) ^ j) (g := fun _ => 1) (fun j _ => Int.one_pow)]
    decide +kernel
  · rw [if_neg e]
    have e0 : 0 < (rev7 i + 255 * rev7 k + 128) % 128 := by
      have : rev7 i ≠ rev7 k := fun h => e (rev7_inj hi hk h).symm
      omega
    exact (sum_cg fun j _ => h.pow j).trans (geo_zero e0 (Nat.mod_lt _ (by omega)))

def invAt (a : List Int) (e j : Nat) : Int := sum 128 fun k => a.getD (2 * k + e) 0 * 3303 * ri k ^ j
def fInvR (a : List Int) : List Int := poly fun j => invAt a (j % 2) (j / 2) % 3329
theorem red_fInvR (a : List Int) : red (fInvR a) := red_poly fun i _ => by omega
theorem fInvR_at (a : List Int) {j e : Nat} (hj : j < 128) (he : e < 2) : (fInvR a).getD (2 * j + e) 0 = invAt a e j % 3329 := by
  rw [fInvR, poly_getD (by omega), show (2 * j + e) % 2 = e by omega, show (2 * j + e) / 2 = j by omega]
theorem ntt_invR (a : List Int) {i e : Nat} (hi : i < 128) (he : e < 2) : cg ((fNtt (fInvR a)).getD (2 * i + e) 0) (a.getD (2 * i + e) 0) := by
  refine (ntt_ev (fInvR a) hi he).trans ?_
  rw [fRed_red (red_fInvR a)]
  unfold ev
  have h1 : cg (sum 128 fun j => (fInvR a).getD (j * 2 + e) 0 * root i ^ j) (sum 128 fun j => sum 128 fun k => a.getD (2 * k + e) 0 * 3303 * (root i * ri k) ^ j) := by
    refine sum_cg fun j hj => ?_
    rw [show j * 2 + e = 2 * j + e by omega, fInvR_at a hj he]
    refine ((cg.mod _).mul (cg.refl _)).trans (cg.of_eq ?_)
    unfold invAt
    rw [← sum_mul_right]
    exact sum_congr fun k _ => by rw [Int.mul_pow, Int.mul_comm (root i ^ j), Int.mul_assoc _ (ri k ^ j)]
  refine h1.trans ?_
  rw [sum_swap]
  have h2 : cg (sum 128 fun k => sum 128 fun j => a.getD (2 * k + e) 0 * 3303 * (root i * ri k) ^ j) (sum 128 fun k => if k = i then a.getD (2 * k + e) 0 * 3303 * 128 else 0) := by
    refine sum_cg fun k hk => ?_
    rw [sum_mul]
    have := (cg.refl (a.getD (2 * k + e) 0 * 3303)).mul (orth hi hk)
    refine this.trans (cg.of_eq ?_)
    split
    · rfl
    · rw [Int.mul_zero]
  refine h2.trans ?_
  rw [sum_one hi (fun k => a.getD (2 * k + e) 0 * 3303 * 128)]
  exact ⟨a.getD (2 * i + e) 0 * 127, by omega⟩
theorem fInvR_eq (a : List Int) : fInvR a = fInv a := by
  have h1 : fNtt (fInvR a) = fRed a := by
    have hr : red (fRed a) := red_iStage a 0
    refine pairs_eq (red_fNtt _) hr fun i hi => ⟨?_, ?_⟩
    · exact (ntt_invR a hi (show 0 < 2 by omega)).trans (red_at (by omega) a).symm
    · exact (ntt_invR a hi (show 1 < 2 by omega)).trans (red_at (by omega) a).symm
  have h2 := fInv_fNtt (fInvR a)
  rw [h1, fRed_red (red_fInvR a)] at h2
  have h3 : ∀ n, iStage (fRed a) n = iStage a n := by
    intro n
    induction n with
    | zero => exact fRed_red (red_iStage a 0)
    | succ n ih => simp only [iStage, ih]
  rw [← h2]
  unfold fInv
  rw [h3]
end Go.Ax.TryP
/-! Printed by program (gen.py). -/
set_option linter.unusedVariables false
namespace Go.Ax.TryP
/-! livery/liveryref13.Inv -/
noncomputable def p_ref13_Inv_E : AE := AE.of [(3, ty3), (22, ty22), (24, ty24), (54, ty54)] [(48, ⟨[.int .i64], [.int .i64], g_ref13_Root⟩), (51, ⟨[.int .i64, .int .i64], [.int .i64], g_ref13_power⟩)]
noncomputable def p_ref13_Inv_H : Hints := [(3, [1, 2, 3, 4, 12]), (8, [1, 2, 3, 4, 6, 7, 8, 12, 35]), (17, [2, 3, 4, 10, 60]), (2000000, [2, 3, 4]), (2000001, [1, 2, 3, 4, 12]), (2000002, [1, 2, 3, 4, 12]), (2000003, [1, 2, 3, 4, 6, 7, 8, 12, 35]), (2000004, [2, 10]), (2000005, [2, 3, 4, 10, 60]), (3000000, [2])]
noncomputable def p_ref13_Inv_c : Code := (Go.Proofs.Try.f27).body.getD .skip
noncomputable def p_ref13_Inv_l8_S : Shape where
  h := { tmps := [.any, .sc (.ptr 0 0 false), .sc (.ptr 1 0 false), .sc (.ptr 2 0 false), .sc (.ptr 3 0 false), .any, .sc (.int .i64), .sc (.int .i64), .sc (.int .i64), .any, .any, .any, .sc (.int .i64), .any, .any, .any, .any, .any, .any, .any, .any, .any, .any, .any, .any, .any, .any, .any, .any, .any, .any, .any, .any, .any, .any, .sc (.int .i64), .any, .any, .any, .any, .any, .any, .any, .any, .any, .any, .any, .any, .any, .any, .any, .any, .any, .any, .any, .any, .any, .any, .any, .any, .any, .any, .any, .any, .any, .any, .any, .any, .any, .any, .any, .any, .any, .any, .any, .any, .any, .any, .any, .any, .any, .any], mem := [.live [.xs (.int .u16) (some 256)] true, .live [.xs (.int .u16) (some 256)] true, .live [.xs (.int .i64) (some 128)] true, .live [.xs (.int .i64) (some 128)] true] }
  ks := [.int, .int, .int, .int, .int, .xs, .xs, .xs, .xs]
  st := fun x => { tmps := [.one .any, .one (.sc (.ptr 0 0 none)), .one (.sc (.ptr 1 0 none)), .one (.sc (.ptr 2 0 none)), .one (.sc (.ptr 3 0 none)), .one .any, .one (.sc (.int .i64 x.1)), .one (.sc (.int .i64 x.2.1)), .one (.sc (.int .i64 x.2.2.1)), .one .any, .one .any, .one .any, .one (.sc (.int .i64 x.2.2.2.1)), .one .any, .one .any, .one .any, .one .any, .one .any, .one .any, .one .any, .one .any, .one .any, .one .any, .one .any, .one .any, .one .any, .one .any, .one .any, .one .any, .one .any, .one .any, .one .any, .one .any, .one .any, .one .any, .one (.sc (.int .i64 x.2.2.2.2.1)), .one .any, .one .any, .one .any, .one .any, .one .any, .one .any, .one .any, .one .any, .one .any, .one .any, .one .any, .one .any, .one .any, .one .any, .one .any, .one .any, .one .any, .one .any, .one .any, .one .any, .one .any, .one .any, .one .any, .one .any, .one .any, .one .any, .one .any, .one .any, .one .any, .one .any, .one .any, .one .any, .one .any, .one .any, .one .any, .one .any, .one .any, .one .any, .one .any, .one .any, .one .any, .one .any, .one .any, .one .any, .one .any, .one .any], mem := [.live { segs := [.xs (.int .u16) 256 x.2.2.2.2.2.1], own := true }, .live { segs := [.xs (.int .u16) 256 x.2.2.2.2.2.2.1], own := true }, .live { segs := [.xs (.int .i64) 128 x.2.2.2.2.2.2.2.1], own := true }, .live { segs := [.xs (.int .i64) 128 x.2.2.2.2.2.2.2.2.1], own := true }] }
noncomputable def p_ref13_Inv_l8_F (N : Nat) (β : Type) (x : (Int × Int × Int × Int × Int × List Int × List Int × List Int × List Int × Unit)) (kn : (Int × Int × Int × Int × Int × List Int × List Int × List Int × List Int × Unit) → Option β) (ke : ((Int × List Int × List Int × List Int × List Int × Unit)) → Option β) : Option β :=
  if (x.2.2.2.2.1 < (128:Int)) then
    if 0 ≤ x.2.2.2.2.1 then (
    if x.2.2.2.2.1 < 128 then (
    if (x.2.2.2.2.1.toNat) < 128 then (
    if 0 ≤ x.2.2.2.2.1 then (
    if x.2.2.2.2.1 < 128 then (
    if (x.2.2.2.2.1.toNat) < 128 then (
    if 0 ≤ x.2.2.2.2.1 then (
    if x.2.2.2.2.1 < 128 then (
    if (x.2.2.2.2.1.toNat) < 128 then (
    if 0 ≤ x.2.2.2.2.1 then (
    if x.2.2.2.2.1 < 128 then (
    if (x.2.2.2.2.1.toNat) < 128 then (
    kn (x.1, (Int.tmod (IntKind.i64.wrap (x.2.1 * x.1)) (3329:Int)), (Int.tmod (IntKind.i64.wrap (x.2.2.1 * x.1)) (3329:Int)), x.2.2.2.1, (IntKind.i64.wrap (x.2.2.2.2.1 + (1:Int))), x.2.2.2.2.2.1, x.2.2.2.2.2.2.1, (List.set x.2.2.2.2.2.2.2.1 (x.2.2.2.2.1.toNat) (IntKind.i64.wrap ((List.getD x.2.2.2.2.2.2.2.1 (x.2.2.2.2.1.toNat) 0) + x.2.1))), (List.set x.2.2.2.2.2.2.2.2.1 (x.2.2.2.2.1.toNat) (IntKind.i64.wrap ((List.getD x.2.2.2.2.2.2.2.2.1 (x.2.2.2.2.1.toNat) 0) + x.2.2.1))), ())) else none) else none) else none) else none) else none) else none) else none) else none) else none) else none) else none) else none
  else
    ke (x.2.2.2.1, x.2.2.2.2.2.1, x.2.2.2.2.2.2.1, x.2.2.2.2.2.2.2.1, x.2.2.2.2.2.2.2.2.1, ())
noncomputable def p_ref13_Inv_l8_go : Go' ((Int × List Int × List Int × List Int × List Int × Unit)) := fun y K => K (.exit 2) { tmps := [.one .any, .one (.sc (.ptr 0 0 none)), .one (.sc (.ptr 1 0 none)), .one (.sc (.ptr 2 0 none)), .one (.sc (.ptr 3 0 none)), .one .any, .one .any, .one .any, .one .any, .one .any, .one .any, .one .any, .one (.sc (.int .i64 y.1)), .one .any, .one .any, .one .any, .one .any, .one .any, .one .any, .one .any, .one .any, .one .any, .one .any, .one .any, .one .any, .one .any, .one .any, .one .any, .one .any, .one .any, .one .any, .one .any, .one .any, .one .any, .one .any, .one .any, .one .any, .one .any, .one .any, .one .any, .one .any, .one .any, .one .any, .one .any, .one .any, .one .any, .one .any, .one .any, .one .any, .one .any, .one .any, .one .any, .one .any, .one .any, .one .any, .one .any, .one .any, .one .any, .one .any, .one .any, .one .any, .one .any, .one .any, .one .any, .one .any, .one .any, .one .any, .one .any, .one .any, .one .any, .one .any, .one .any, .one .any, .one .any, .one .any, .one .any, .one .any, .one .any, .one .any, .one .any, .one .any, .one .any], mem := [.live { segs := [.xs (.int .u16) 256 y.2.1], own := true }, .live { segs := [.xs (.int .u16) 256 y.2.2.1], own := true }, .live { segs := [.xs (.int .i64) 128 y.2.2.2.1], own := true }, .live { segs := [.xs (.int .i64) 128 y.2.2.2.2.1], own := true }] }
noncomputable def p_ref13_Inv_l8_L (N : Nat) : LT := upd (LT.nil) 8 (loopE p_ref13_Inv_l8_S N (p_ref13_Inv_l8_F N) p_ref13_Inv_l8_go)
theorem p_ref13_Inv_l8_ok (N : Nat) : OkAll p_ref13_Inv_E p_ref13_Inv_H N (p_ref13_Inv_l8_L N) (subs p_ref13_Inv_c) :=
  addLoop (c := theLoop 8 p_ref13_Inv_c) (OkAll.nil) (by kernel_rfl) (fun x => by kernel_rfl) (fun β x kn ke => by kernel_rfl)
noncomputable def p_ref13_Inv_l3_S : Shape where
  h := { tmps := [.any, .sc (.ptr 0 0 false), .sc (.ptr 1 0 false), .sc (.ptr 2 0 false), .sc (.ptr 3 0 false), .any, .any, .any, .any, .any, .any, .any, .sc (.int .i64), .any, .any, .any, .any, .any, .any, .any, .any, .any, .any, .any, .any, .any, .any, .any, .any, .any, .any, .any, .any, .any, .any, .any, .any, .any, .any, .any, .any, .any, .any, .any, .any, .any, .any, .any, .any, .any, .any, .any, .any, .any, .any, .any, .any, .any, .any, .any, .any, .any, .any, .any, .any, .any, .any, .any, .any, .any, .any, .any, .any, .any, .any, .any, .any, .any, .any, .any, .any, .any], mem := [.live [.xs (.int .u16) (some 256)] true, .live [.xs (.int .u16) (some 256)] true, .live [.xs (.int .i64) (some 128)] true, .live [.xs (.int .i64) (some 128)] true] }
  ks := [.int, .xs, .xs, .xs, .xs]
  st := fun x => { tmps := [.one .any, .one (.sc (.ptr 0 0 none)), .one (.sc (.ptr 1 0 none)), .one (.sc (.ptr 2 0 none)), .one (.sc (.ptr 3 0 none)), .one .any, .one .any, .one .any, .one .any, .one .any, .one .any, .one .any, .one (.sc (.int .i64 x.1)), .one .any, .one .any, .one .any, .one .any, .one .any, .one .any, .one .any, .one .any, .one .any, .one .any, .one .any, .one .any, .one .any, .one .any, .one .any, .one .any, .one .any, .one .any, .one .any, .one .any, .one .any, .one .any, .one .any, .one .any, .one .any, .one .any, .one .any, .one .any, .one .any, .one .any, .one .any, .one .any, .one .any, .one .any, .one .any, .one .any, .one .any, .one .any, .one .any, .one .any, .one .any, .one .any, .one .any, .one .any, .one .any, .one .any, .one .any, .one .any, .one .any, .one .any, .one .any, .one .any, .one .any, .one .any, .one .any, .one .any, .one .any, .one .any, .one .any, .one .any, .one .any, .one .any, .one .any, .one .any, .one .any, .one .any, .one .any, .one .any, .one .any], mem := [.live { segs := [.xs (.int .u16) 256 x.2.1], own := true }, .live { segs := [.xs (.int .u16) 256 x.2.2.1], own := true }, .live { segs := [.xs (.int .i64) 128 x.2.2.2.1], own := true }, .live { segs := [.xs (.int .i64) 128 x.2.2.2.2.1], own := true }] }
noncomputable def p_ref13_Inv_l3_F (N : Nat) (β : Type) (x : (Int × List Int × List Int × List Int × List Int × Unit)) (kn : (Int × List Int × List Int × List Int × List Int × Unit) → Option β) (ke : ((List Int × List Int × List Int × Unit)) → Option β) : Option β :=
  if (x.1 < (128:Int)) then
    (g_ref13_Root (x.1, ())).bind fun r1 => (
    (g_ref13_power (r1, (255:Int), ())).bind fun r2 => (
    if 0 ≤ (IntKind.i64.wrap ((2:Int) * x.1)) then (
    if (IntKind.i64.wrap ((2:Int) * x.1)) < 256 then (
    if ((IntKind.i64.wrap ((2:Int) * x.1)).toNat) < 256 then (
    if 0 ≤ (IntKind.i64.wrap ((IntKind.i64.wrap ((2:Int) * x.1)) + (1:Int))) then (
    if (IntKind.i64.wrap ((IntKind.i64.wrap ((2:Int) * x.1)) + (1:Int))) < 256 then (
    if ((IntKind.i64.wrap ((IntKind.i64.wrap ((2:Int) * x.1)) + (1:Int))).toNat) < 256 then (
    iter (p_ref13_Inv_l8_F N) N (r2, (Int.tmod (IntKind.i64.wrap ((IntKind.i64.wrap (Int.tmod (List.getD x.2.1 ((IntKind.i64.wrap ((2:Int) * x.1)).toNat) 0) (3329:Int))) * (3303:Int))) (3329:Int)), (Int.tmod (IntKind.i64.wrap ((IntKind.i64.wrap (Int.tmod (List.getD x.2.1 ((IntKind.i64.wrap ((IntKind.i64.wrap ((2:Int) * x.1)) + (1:Int))).toNat) 0) (3329:Int))) * (3303:Int))) (3329:Int)), x.1, (0:Int), x.2.1, x.2.2.1, x.2.2.2.1, x.2.2.2.2.1, ()) fun y3 => (
    kn ((IntKind.i64.wrap (y3.1 + (1:Int))), y3.2.1, y3.2.2.1, y3.2.2.2.1, y3.2.2.2.2.1, ()))) else none) else none) else none) else none) else none) else none))
  else
    ke (x.2.2.1, x.2.2.2.1, x.2.2.2.2.1, ())
noncomputable def p_ref13_Inv_l3_go : Go' ((List Int × List Int × List Int × Unit)) := fun y K => K (.exit 0) { tmps := [.one .any, .one .any, .one (.sc (.ptr 0 0 none)), .one (.sc (.ptr 1 0 none)), .one (.sc (.ptr 2 0 none)), .one .any, .one .any, .one .any, .one .any, .one .any, .one .any, .one .any, .one .any, .one .any, .one .any, .one .any, .one .any, .one .any, .one .any, .one .any, .one .any, .one .any, .one .any, .one .any, .one .any, .one .any, .one .any, .one .any, .one .any, .one .any, .one .any, .one .any, .one .any, .one .any, .one .any, .one .any, .one .any, .one .any, .one .any, .one .any, .one .any, .one .any, .one .any, .one .any, .one .any, .one .any, .one .any, .one .any, .one .any, .one .any, .one .any, .one .any, .one .any, .one .any, .one .any, .one .any, .one .any, .one .any, .one .any, .one .any, .one .any, .one .any, .one .any, .one .any, .one .any, .one .any, .one .any, .one .any, .one .any, .one .any, .one .any, .one .any, .one .any, .one .any, .one .any, .one .any, .one .any, .one .any, .one .any, .one .any, .one .any, .one .any], mem := [.live { segs := [.xs (.int .u16) 256 y.1], own := true }, .live { segs := [.xs (.int .i64) 128 y.2.1], own := true }, .live { segs := [.xs (.int .i64) 128 y.2.2.1], own := true }] }
noncomputable def p_ref13_Inv_l3_L (N : Nat) : LT := upd (p_ref13_Inv_l8_L N) 3 (loopE p_ref13_Inv_l3_S N (p_ref13_Inv_l3_F N) p_ref13_Inv_l3_go)
theorem p_ref13_Inv_l3_ok (N : Nat) : OkAll p_ref13_Inv_E p_ref13_Inv_H N (p_ref13_Inv_l3_L N) (subs p_ref13_Inv_c) :=
  addLoop (c := theLoop 3 p_ref13_Inv_c) (p_ref13_Inv_l8_ok N) (by kernel_rfl) (fun x => by kernel_rfl) (fun β x kn ke => by kernel_rfl)
noncomputable def p_ref13_Inv_l17_S : Shape where
  h := { tmps := [.any, .any, .sc (.ptr 0 0 false), .sc (.ptr 1 0 false), .sc (.ptr 2 0 false), .any, .any, .any, .any, .any, .sc (.ptr 3 0 false), .any, .any, .any, .any, .any, .any, .any, .any, .any, .any, .any, .any, .any, .any, .any, .any, .any, .any, .any, .any, .any, .any, .any, .any, .any, .any, .any, .any, .any, .any, .any, .any, .any, .any, .any, .any, .any, .any, .any, .any, .any, .any, .any, .any, .any, .any, .any, .any, .any, .sc (.int .i64), .any, .any, .any, .any, .any, .any, .any, .any, .any, .any, .any, .any, .any, .any, .any, .any, .any, .any, .any, .any, .any], mem := [.live [.xs (.int .u16) (some 256)] true, .live [.xs (.int .i64) (some 128)] true, .live [.xs (.int .i64) (some 128)] true, .live [.xs (.int .u16) (some 256)] true] }
  ks := [.int, .xs, .xs, .xs, .xs]
  st := fun x => { tmps := [.one .any, .one .any, .one (.sc (.ptr 0 0 none)), .one (.sc (.ptr 1 0 none)), .one (.sc (.ptr 2 0 none)), .one .any, .one .any, .one .any, .one .any, .one .any, .one (.sc (.ptr 3 0 none)), .one .any, .one .any, .one .any, .one .any, .one .any, .one .any, .one .any, .one .any, .one .any, .one .any, .one .any, .one .any, .one .any, .one .any, .one .any, .one .any, .one .any, .one .any, .one .any, .one .any, .one .any, .one .any, .one .any, .one .any, .one .any, .one .any, .one .any, .one .any, .one .any, .one .any, .one .any, .one .any, .one .any, .one .any, .one .any, .one .any, .one .any, .one .any, .one .any, .one .any, .one .any, .one .any, .one .any, .one .any, .one .any, .one .any, .one .any, .one .any, .one .any, .one (.sc (.int .i64 x.1)), .one .any, .one .any, .one .any, .one .any, .one .any, .one .any, .one .any, .one .any, .one .any, .one .any, .one .any, .one .any, .one .any, .one .any, .one .any, .one .any, .one .any, .one .any, .one .any, .one .any, .one .any], mem := [.live { segs := [.xs (.int .u16) 256 x.2.1], own := true }, .live { segs := [.xs (.int .i64) 128 x.2.2.1], own := true }, .live { segs := [.xs (.int .i64) 128 x.2.2.2.1], own := true }, .live { segs := [.xs (.int .u16) 256 x.2.2.2.2.1], own := true }] }
noncomputable def p_ref13_Inv_l17_F (N : Nat) (β : Type) (x : (Int × List Int × List Int × List Int × List Int × Unit)) (kn : (Int × List Int × List Int × List Int × List Int × Unit) → Option β) (ke : ((List Int × List Int × Unit)) → Option β) : Option β :=
  if (x.1 < (128:Int)) then
    if 0 ≤ x.1 then (
    if x.1 < 128 then (
    if (x.1.toNat) < 128 then (
    if 0 ≤ x.1 then (
    if x.1 < 128 then (
    if (x.1.toNat) < 128 then (
    if 0 ≤ (IntKind.i64.wrap ((2:Int) * x.1)) then (
    if (IntKind.i64.wrap ((2:Int) * x.1)) < 256 then (
    if ((IntKind.i64.wrap ((2:Int) * x.1)).toNat) < 256 then (
    if 0 ≤ (IntKind.i64.wrap ((IntKind.i64.wrap ((2:Int) * x.1)) + (1:Int))) then (
    if (IntKind.i64.wrap ((IntKind.i64.wrap ((2:Int) * x.1)) + (1:Int))) < 256 then (
    if ((IntKind.i64.wrap ((IntKind.i64.wrap ((2:Int) * x.1)) + (1:Int))).toNat) < 256 then (
    kn ((IntKind.i64.wrap (x.1 + (1:Int))), x.2.1, x.2.2.1, x.2.2.2.1, (List.set (List.set x.2.2.2.2.1 ((IntKind.i64.wrap ((2:Int) * x.1)).toNat) (IntKind.u16.wrap (Int.tmod (List.getD x.2.2.1 (x.1.toNat) 0) (3329:Int)))) ((IntKind.i64.wrap ((IntKind.i64.wrap ((2:Int) * x.1)) + (1:Int))).toNat) (IntKind.u16.wrap (Int.tmod (List.getD x.2.2.2.1 (x.1.toNat) 0) (3329:Int)))), ())) else none) else none) else none) else none) else none) else none) else none) else none) else none) else none) else none) else none
  else
    ke (x.2.1, x.2.2.2.2.1, ())
noncomputable def p_ref13_Inv_l17_go : Go' ((List Int × List Int × Unit)) := fun y K => K (.exit 4) { tmps := [.one .any, .one .any, .one (.sc (.ptr 0 0 none)), .one .any, .one .any, .one .any, .one .any, .one .any, .one .any, .one .any, .one (.sc (.ptr 1 0 none)), .one .any, .one .any, .one .any, .one .any, .one .any, .one .any, .one .any, .one .any, .one .any, .one .any, .one .any, .one .any, .one .any, .one .any, .one .any, .one .any, .one .any, .one .any, .one .any, .one .any, .one .any, .one .any, .one .any, .one .any, .one .any, .one .any, .one .any, .one .any, .one .any, .one .any, .one .any, .one .any, .one .any, .one .any, .one .any, .one .any, .one .any, .one .any, .one .any, .one .any, .one .any, .one .any, .one .any, .one .any, .one .any, .one .any, .one .any, .one .any, .one .any, .one .any, .one .any, .one .any, .one .any, .one .any, .one .any, .one .any, .one .any, .one .any, .one .any, .one .any, .one .any, .one .any, .one .any, .one .any, .one .any, .one .any, .one .any, .one .any, .one .any, .one .any, .one .any], mem := [.live { segs := [.xs (.int .u16) 256 y.1], own := true }, .live { segs := [.xs (.int .u16) 256 y.2.1], own := true }] }
noncomputable def p_ref13_Inv_l17_L (N : Nat) : LT := upd (p_ref13_Inv_l3_L N) 17 (loopE p_ref13_Inv_l17_S N (p_ref13_Inv_l17_F N) p_ref13_Inv_l17_go)
theorem p_ref13_Inv_l17_ok (N : Nat) : OkAll p_ref13_Inv_E p_ref13_Inv_H N (p_ref13_Inv_l17_L N) (subs p_ref13_Inv_c) :=
  addLoop (c := theLoop 17 p_ref13_Inv_c) (p_ref13_Inv_l3_ok N) (by kernel_rfl) (fun x => by kernel_rfl) (fun β x kn ke => by kernel_rfl)
abbrev p_ref13_Inv_ks : List Kd := [.xs (.int .u16) 256]
abbrev p_ref13_Inv_rs : List Kd := [.xs (.int .u16) 256]
noncomputable def p_ref13_Inv (N : Nat) (x : List Int × Unit) : Option (List Int) :=
  iter (p_ref13_Inv_l3_F N) N ((0:Int), x.1, (List.replicate 256 0), (List.replicate 128 0), (List.replicate 128 0), ()) fun y4 => (
  iter (p_ref13_Inv_l17_F N) N ((0:Int), y4.1, y4.2.1, y4.2.2.1, (List.replicate 256 0), ()) fun y5 => (
  some y5.2.1))
theorem p_ref13_Inv_eq (N : Nat) (x : Ds [.xs (.int .u16) 256]) : funL p_ref13_Inv_E p_ref13_Inv_H (p_ref13_Inv_l17_L N) N Go.Proofs.Try.f27 p_ref13_Inv_c [.xs (.int .u16) 256] [.xs (.int .u16) 256] x = p_ref13_Inv N x := by kernel_rfl
theorem p_ref13_Inv_Eok (he_ref13_Root : SigOk Go.Proofs.Try.prog 48 ⟨[.int .i64], [.int .i64], g_ref13_Root⟩) (he_ref13_power : SigOk Go.Proofs.Try.prog 51 ⟨[.int .i64, .int .i64], [.int .i64], g_ref13_power⟩) : p_ref13_Inv_E.Ok Go.Proofs.Try.prog := AE.of_ok (all_cons ty3_ok (all_cons ty22_ok (all_cons ty24_ok (all_cons ty54_ok all_nil)))) (all_cons ⟨he_ref13_Root, enters_ref13_Root⟩ (all_cons ⟨he_ref13_power, enters_ref13_power⟩ all_nil))
theorem p_ref13_Inv_ok (he_ref13_Root : SigOk Go.Proofs.Try.prog 48 ⟨[.int .i64], [.int .i64], g_ref13_Root⟩) (he_ref13_power : SigOk Go.Proofs.Try.prog 51 ⟨[.int .i64, .int .i64], [.int .i64], g_ref13_power⟩) {g : Ds [.xs (.int .u16) 256] → Option (Rs [.xs (.int .u16) 256])} (hg : ∀ x r, g x = some r → ∃ N, p_ref13_Inv N x = some r) : SigOk Go.Proofs.Try.prog 27 ⟨[.xs (.int .u16) 256], [.xs (.int .u16) 256], g⟩ :=
  fun_of (E := p_ref13_Inv_E) (H := p_ref13_Inv_H) (L := fun N => p_ref13_Inv_l17_L N) (c := p_ref13_Inv_c) (ks := p_ref13_Inv_ks) (rs := p_ref13_Inv_rs) (F := p_ref13_Inv) (p_ref13_Inv_Eok he_ref13_Root he_ref13_power) mix Go.Proofs.Try.func27 (by kernel_rfl) (fun N => p_ref13_Inv_l17_ok N) p_ref13_Inv_eq hg
end Go.Ax.TryP
/-! ### The transform's inverse, as the document reckons it: the walk -/
namespace Go.Ax.TryP

def ee (a : List Int) (e k : Nat) : Nat → Int
  | 0 => a.getD (2 * k + e) 0 % 3329 * 3303 % 3329
  | j + 1 => ee a e k j * ri k % 3329
theorem ee_bound (a : List Int) (e k : Nat) : ∀ j, 0 ≤ ee a e k j ∧ ee a e k j < 3329
  | 0 => by unfold ee; omega
  | j + 1 => by unfold ee; omega
theorem ee_cg (a : List Int) (e k : Nat) : ∀ j, cg (ee a e k j) (a.getD (2 * k + e) 0 * 3303 * ri k ^ j)
  | 0 => by
    rw [Int.pow_zero, Int.mul_one]
    exact (cg.mod _).trans ((cg.mod _).mul (cg.refl _))
  | j + 1 => by
    rw [Int.pow_succ, ← Int.mul_assoc]
    exact (cg.mod _).trans ((ee_cg a e k j).mul (cg.refl _))
def acc (a : List Int) (e i j : Nat) : Int := sum i fun k => ee a e k j
theorem acc_bound (a : List Int) (e : Nat) : ∀ i j, 0 ≤ acc a e i j ∧ acc a e i j ≤ i * 3328
  | 0, j => ⟨Int.le_refl 0, by simp [acc, sum]⟩
  | i + 1, j => by
    have h := acc_bound a e i j
    have h2 := ee_bound a e i j
    unfold acc at *
    rw [sum]
    rw [Int.natCast_add]
    simp only [Int.cast_ofNat_Int] at *
    omega
theorem acc_succ (a : List Int) (e i j : Nat) : acc a e (i + 1) j = acc a e i j + ee a e i j := rfl
def accs (a : List Int) (e i : Nat) : List Int := (List.range 128).map (acc a e i)
theorem accs_len (a : List Int) (e i : Nat) : (accs a e i).length = 128 := by simp [accs]
theorem acc_inv (a : List Int) {e j : Nat} : acc a e 128 j % 3329 = invAt a e j % 3329 := cg.emod (sum_cg fun k _ => ee_cg a e k j)
theorem at51w {x n : Int} (h : 0 ≤ x ∧ x ≤ 3328) (h2 : 0 ≤ n ∧ n ≤ 1000) : g_ref13_power (x, n, ()) = some (x ^ n.toNat % 3329) :=
  Spec_at (ks := p_ref13_power_ks) (rs := p_ref13_power_rs) (x := (x, n, ())) ⟨okInt_i64.2 ⟨by omega, by omega⟩, okInt_i64.2 ⟨show -9223372036854775808 ≤ n by omega, show n ≤ 9223372036854775807 by omega⟩, trivial⟩ ⟨h, h2⟩

theorem q_ref13_Inv : ∀ x r, g_ref13_Inv x = some r → ∃ N, p_ref13_Inv N x = some r := by
  refine Spec_of (ks := p_ref13_Inv_ks) (rs := p_ref13_Inv_rs) fun x hw _ => ⟨300, ?_⟩
  obtain ⟨(a : List Int), u⟩ := x
  have ha := wf_one.1 hw
  unfold p_ref13_Inv
  have hZ : (List.replicate 256 (0 : Int)).length = 256 := List.length_replicate ..
  have hA : ∀ e, accs a e 0 = List.replicate 128 0 := fun e => by
    refine List.eq_replicate_iff.2 ⟨accs_len a e 0, fun b hb => ?_⟩
    obtain ⟨j, _, rfl⟩ := List.mem_map.1 hb
    rfl
  generalize List.replicate 256 (0 : Int) = Z at hZ ⊢
  refine (iter_run (F := p_ref13_Inv_l3_F 300) (s := fun i => ((i : Int), a, Z, accs a 0 i, accs a 1 i, ())) (y := (Z, accs a 0 128, accs a 1 128, ())) 128 ?_ ?_ 300 (by omega)).trans ?_
  · intro i hi kn
    have hg := root_bound i
    have hg2 := ri_bound i
    have t1 := at48 (n := (i : Int)) (by omega)
    rw [Int.toNat_natCast] at t1
    have t2 := at51w (x := root i) (n := 255) (by omega) (by omega)
    rw [show (255 : Int).toNat = 255 from rfl, show root i ^ 255 % 3329 = ri i from rfl] at t2
    have c1 : 2 * (i : Int) = ((2 * i : Nat) : Int) := by omega
    have c2 : ((2 * i : Nat) : Int) + 1 = ((2 * i + 1 : Nat) : Int) := by omega
    have a0 := ha.at (2 * i)
    have a1 := ha.at (2 * i + 1)
    have x0 : 0 ≤ a.getD (2 * i) 0 % 3329 ∧ a.getD (2 * i) 0 % 3329 < 3329 := by omega
    have x1 : 0 ≤ a.getD (2 * i + 1) 0 % 3329 ∧ a.getD (2 * i + 1) 0 % 3329 < 3329 := by omega
    unfold p_ref13_Inv_l3_F
    dsimp only
    rw [if_pos (by omega), t1]
    simp only [Option.bind_some]
    rw [t2]
    simp only [Option.bind_some]
    simp (disch := omega) only [if_pos, wrap_i64, c1, c2, Int.toNat_natCast, tmod_pos]
    have w0 : a.getD (2 * i) 0 % 3329 * 3303 % 3329 = ee a 0 i 0 := rfl
    have w1 : a.getD (2 * i + 1) 0 % 3329 * 3303 % 3329 = ee a 1 i 0 := rfl
    rw [w0, w1]
    refine (iter_run (F := p_ref13_Inv_l8_F 300) (s := fun j => (ri i, ee a 0 i j, ee a 1 i j, (i : Int), (j : Int), a, Z, part (acc a 0 (i + 1)) j (accs a 0 i), part (acc a 1 (i + 1)) j (accs a 1 i), ()))
      (y := ((i : Int), a, Z, accs a 0 (i + 1), accs a 1 (i + 1), ())) 128 ?_ ?_ 300 (by omega)).trans ?_
    · intro j hj kn
      have b0 := ee_bound a 0 i j
      have b1 := ee_bound a 1 i j
      have d0 := acc_bound a 0 i j
      have d1 := acc_bound a 1 i j
      have m0 := mul_bound (a := ee a 0 i j) (b := ri i) (by omega) (by omega)
      have m1 := mul_bound (a := ee a 1 i j) (b := ri i) (by omega) (by omega)
      have g1 : (j : Int) < 128 := by omega
      have g0 : (0 : Int) ≤ j := by omega
      have e0 : (accs a 0 i).getD j 0 = acc a 0 i j := map_range_getD hj
      have e1 : (accs a 1 i).getD j 0 = acc a 1 i j := map_range_getD hj
      unfold p_ref13_Inv_l8_F
      simp only [g1, g0, hj, if_true, Int.toNat_natCast, part_getD (Nat.le_refl j), e0, e1]
      have hi' : (i : Int) * 3328 ≤ 128 * 3328 := by omega
      simp (disch := omega) only [wrap_i64, tmod_pos]
      rw [part_set' (h := acc a 0 (i + 1)) (by rw [accs_len]; omega) (acc_succ a 0 i j).symm, part_set' (h := acc a 1 (i + 1)) (by rw [accs_len]; omega) (acc_succ a 1 i j).symm, Int.natCast_add]
      rfl
    · intro kn
      unfold p_ref13_Inv_l8_F
      simp (disch := omega) only [if_neg]
      rw [part_all (accs_len a 0 i), part_all (accs_len a 1 i)]
      rfl
    · simp (disch := omega) only [wrap_i64]
      rw [Int.natCast_add]
      rfl
  · intro kn
    unfold p_ref13_Inv_l3_F
    simp (disch := omega) only [if_neg]
  · refine (iter_run (F := p_ref13_Inv_l17_F 300) (s := fun i => ((i : Int), Z, accs a 0 128, accs a 1 128, part (fun j => (fInv a).getD j 0) (2 * i) Z, ())) (y := (Z, fInv a, ())) 128 ?_ ?_ 300 (by omega)).trans ?_
    · intro i hi kn
      have c1 : 2 * (i : Int) = ((2 * i : Nat) : Int) := by omega
      have c2 : ((2 * i : Nat) : Int) + 1 = ((2 * i + 1 : Nat) : Int) := by omega
      have e0 : (accs a 0 128).getD i 0 = acc a 0 128 i := map_range_getD hi
      have e1 : (accs a 1 128).getD i 0 = acc a 1 128 i := map_range_getD hi
      have d0 := acc_bound a 0 128 i
      have d1 := acc_bound a 1 128 i
      have x0 : 0 ≤ acc a 0 128 i % 3329 ∧ acc a 0 128 i % 3329 < 3329 := by omega
      have x1 : 0 ≤ acc a 1 128 i % 3329 ∧ acc a 1 128 i % 3329 < 3329 := by omega
      have v0 : acc a 0 128 i % 3329 = (fInv a).getD (2 * i) 0 := by rw [acc_inv, ← fInvR_eq]; exact (fInvR_at a hi (show 0 < 2 by omega)).symm
      have v1 : acc a 1 128 i % 3329 = (fInv a).getD (2 * i + 1) 0 := by rw [acc_inv, ← fInvR_eq]; exact (fInvR_at a hi (show 1 < 2 by omega)).symm
      unfold p_ref13_Inv_l17_F
      simp (disch := omega) only [if_pos, wrap_i64, c1, c2, Int.toNat_natCast, e0, e1, tmod_pos, wrap_u16]
      rw [part_set' (h := fun j => (fInv a).getD j 0) (i := 2 * i) (by omega) v0, part_set' (h := fun j => (fInv a).getD j 0) (i := 2 * i + 1) (by omega) v1, Int.natCast_add]
      rfl
    · intro kn
      unfold p_ref13_Inv_l17_F
      simp (disch := omega) only [if_neg]
      rw [part_all (n := 2 * 128) hZ]
      have : (List.range (2 * 128)).map (fun j => (fInv a).getD j 0) = fInv a := poly_self (red_fInv a).1
      rw [this]
    · rfl
theorem at27 {a : List Int} (h : u16s 256 a) : g_ref13_Inv (a, ()) = some (fInv a) := Spec_at (ks := p_ref13_Inv_ks) (rs := p_ref13_Inv_rs) (wf_one.2 h) trivial
theorem s_ref13_Inv : SigOk Go.Proofs.Try.prog 27 ⟨p_ref13_Inv_ks, p_ref13_Inv_rs, g_ref13_Inv⟩ := p_ref13_Inv_ok s_ref13_Root s_ref13_power q_ref13_Inv
theorem q_law13_RingNtts : ∀ x r, g_law13_RingNtts x = some r → ∃ N, p_law13_RingNtts N x = some r := by
  refine Spec_of (ks := p_law13_RingNtts_ks) (rs := p_law13_RingNtts_rs) fun x hw _ => ⟨0, ?_⟩
  obtain ⟨(a : List Int), u⟩ := x
  have ha := wf_one.1 hw
  have hlive : g_law13_live () = some true := Spec_at (ks := []) (rs := [.bool]) (x := ()) trivial trivial
  unfold p_law13_RingNtts
  simp only [hlive, at24 ha, at25 ha, at26 ha, at27 ha, Option.bind_some, if_true, decide_true]
theorem s_law13_RingNtts : SigOk Go.Proofs.Try.prog 7 ⟨p_law13_RingNtts_ks, p_law13_RingNtts_rs, g_law13_RingNtts⟩ := p_law13_RingNtts_ok s_law13_live s_ring_Ntt s_ref13_Ntt s_ring_Inv s_ref13_Inv q_law13_RingNtts
end Go.Ax.TryP
