/- A part of the proof: PlcS, PlcP, PlcQ1, PlcQ2, PlcQ3, PlcQ4, PlcQ5, PlcW. -/
import Derived.Test.YtnokmgclkediiaaAxC
import Derived.Test.YtnokmgclkediiaaDringB
/-! ### Hints as bytes: what the functions answer -/
namespace Go.Ax.TryP
def accP (f : Nat → List Int) : Nat → List Int
  | 0 => []
  | t + 1 => accP f t ++ f t
/-- The mark at a place of a row, if there is one. -/
def mkP (l : List Int) (k i : Nat) : List Int := if l.getD (k * 256 + i) 0 ≠ 0 then [(i : Int)] else []
def rowP (l : List Int) (k : Nat) : List Int := accP (mkP l k) 256
def allP (l : List Int) (n : Nat) : List Int := accP (rowP l) n
def endP (l : List Int) (k : Nat) : Int := ((allP l (k + 1)).length : Int)
def packP (l : List Int) (most : Int) : List Int × Int := if (l.length / 256 > 16 ∨ most < 0) ∨ 255 < most then ([], 1) else if most < ((allP l (l.length / 256)).length : Int) then ([], 3) else
  (allP l (l.length / 256) ++ List.replicate (most.toNat - (allP l (l.length / 256)).length) 0 ++ (List.range (l.length / 256)).map (endP l), 0)
/-- Where the k-th row's places begin. -/
def cutP (b : List Int) (m : Nat) : Nat → Nat
  | 0 => 0
  | k + 1 => (b.getD (m + k) 0).toNat
def markP (b : List Int) (k a : Nat) (h : List Int) : Nat → List Int
  | 0 => h
  | j + 1 => (markP b k a h j).set (k * 256 + (b.getD (a + j) 0).toNat) 1
def hintP (b : List Int) (m : Nat) (h : List Int) : Nat → List Int
  | 0 => h
  | k + 1 => markP b k (cutP b m k) (hintP b m h k) (cutP b m (k + 1) - cutP b m k)
def okR (b : List Int) (m n : Nat) : Prop := ∀ k, k < n → cutP b m k ≤ cutP b m (k + 1) ∧ cutP b m (k + 1) ≤ m
def growP (b : List Int) (a e : Nat) : Prop := ∀ i, a < i → i < e → b.getD (i - 1) 0 < b.getD i 0
def okG (b : List Int) (m n : Nat) : Prop := ∀ k, k < n → growP b (cutP b m k) (cutP b m (k + 1))
def okZ (b : List Int) (m n : Nat) : Prop := ∀ j, cutP b m n ≤ j → j < m → b.getD j 0 = 0
open Classical in
noncomputable def unpackP (n most : Int) (b : List Int) : List Int × Int := if (n < 0 ∨ 16 < n) ∨ (most < 0 ∨ 255 < most) ∨ (b.length : Int) ≠ most + n then ([], 1) else
  if okR b most.toNat n.toNat ∧ okG b most.toNat n.toNat ∧ okZ b most.toNat n.toNat then (hintP b most.toNat (List.replicate (n.toNat * 256) 0) n.toNat, 0) else ([], 150)
noncomputable def g_dring_PackHints : List Int × Int × Unit → Option (List Int × Int) := Spec (ks := [.sla .bool 256, .int .i64]) (rs := [.sl (.int .u8), .int .i64]) (fun _ => True) fun x => packP x.1 x.2.1
noncomputable def g_ref15_PackHints : List Int × Int × Unit → Option (List Int × Int) := Spec (ks := [.sla .bool 256, .int .i64]) (rs := [.sl (.int .u8), .int .i64]) (fun _ => True) fun x => packP x.1 x.2.1
noncomputable def g_dring_UnpackHints : Int × Int × List Int × Unit → Option (List Int × Int) := Spec (ks := [.int .i64, .int .i64, .sl (.int .u8)]) (rs := [.sla .bool 256, .int .i64]) (fun _ => True) fun x => unpackP x.1 x.2.1 x.2.2.1
noncomputable def g_ref15_UnpackHints : Int × Int × List Int × Unit → Option (List Int × Int) := Spec (ks := [.int .i64, .int .i64, .sl (.int .u8)]) (rs := [.sla .bool 256, .int .i64]) (fun _ => True) fun x => unpackP x.1 x.2.1 x.2.2.1
noncomputable def g_ref01_Equal : List Int × List Int × Unit → Option Bool := Spec (ks := [.sl (.int .u8), .sl (.int .u8)]) (rs := [.bool]) (fun _ => True) fun x => decide (x.1 = x.2.1)
noncomputable def g_law15_same : List Int × List Int × Unit → Option Bool := Spec (ks := [.sla .bool 256, .sla .bool 256]) (rs := [.bool]) (fun x => x.1 = x.2.1) fun _ => true
noncomputable def g_law15_DringPlaces : List Int × Int × Int × List Int × Unit → Option Bool := Spec (ks := [.sla .bool 256, .int .i64, .int .i64, .sl (.int .u8)]) (rs := [.bool]) (fun _ => True) fun _ => true
end Go.Ax.TryP
/-! Printed by program (gen.py). -/
set_option linter.unusedVariables false
namespace Go.Ax.TryP
/-! livery/liveryref01.Equal -/
noncomputable def p_ref01_Equal_E : AE := AE.of [(5, ty5), (9, ty9), (39, ty39)] []
noncomputable def p_ref01_Equal_H : Hints := [(3000000, [4])]
noncomputable def p_ref01_Equal_c : Code := (Go.Proofs.Try.f29).body.getD .skip
abbrev p_ref01_Equal_ks : List Kd := [.sl (.int .u8), .sl (.int .u8)]
abbrev p_ref01_Equal_rs : List Kd := [.bool]
noncomputable def p_ref01_Equal (N : Nat) (x : List Int × List Int × Unit) : Option (Bool) :=
  some (decide ((strOfNums x.1) = (strOfNums x.2.1)))
theorem p_ref01_Equal_eq (N : Nat) (x : Ds [.sl (.int .u8), .sl (.int .u8)]) : funL p_ref01_Equal_E p_ref01_Equal_H (LT.nil) N Go.Proofs.Try.f29 p_ref01_Equal_c [.sl (.int .u8), .sl (.int .u8)] [.bool] x = p_ref01_Equal N x := by kernel_rfl
theorem p_ref01_Equal_Eok : p_ref01_Equal_E.Ok Go.Proofs.Try.prog := AE.of_ok (all_cons ty5_ok (all_cons ty9_ok (all_cons ty39_ok all_nil))) all_nil
theorem p_ref01_Equal_ok {g : Ds [.sl (.int .u8), .sl (.int .u8)] → Option (Rs [.bool])} (hg : ∀ x r, g x = some r → ∃ N, p_ref01_Equal N x = some r) : SigOk Go.Proofs.Try.prog 29 ⟨[.sl (.int .u8), .sl (.int .u8)], [.bool], g⟩ :=
  fun_of (E := p_ref01_Equal_E) (H := p_ref01_Equal_H) (L := fun N => LT.nil) (c := p_ref01_Equal_c) (ks := p_ref01_Equal_ks) (rs := p_ref01_Equal_rs) (F := p_ref01_Equal) (p_ref01_Equal_Eok) mix Go.Proofs.Try.func29 (by kernel_rfl) (fun N => OkAll.nil) p_ref01_Equal_eq hg

/-! livery/dring.PackHints -/
noncomputable def p_dring_PackHints_E : AE := AE.of [(3, ty3), (4, ty4), (5, ty5), (31, ty31), (38, ty38), (39, ty39)] []
noncomputable def p_dring_PackHints_H : Hints := [(6, [0, 1, 6, 7, 27, 28]), (9, [0, 1, 6, 7, 8, 27, 28, 31]), (2000000, [6]), (2000001, [0, 1, 6, 7, 27, 28]), (2000002, [0, 1, 6, 7, 8, 27, 28]), (2000003, [0, 1, 6, 7, 8, 27, 28, 31]), (3000000, [4, 5])]
noncomputable def p_dring_PackHints_c : Code := (Go.Proofs.Try.f25).body.getD .skip
noncomputable def p_dring_PackHints_l9_S : Shape where
  h := { tmps := [.sc (.vec 0 none 256), .sc (.int .i64), .any, .any, .any, .any, .sc (.vec 1 none 1), .sc (.int .i64), .sc (.int .i64), .any, .any, .any, .any, .any, .any, .any, .any, .any, .any, .any, .any, .any, .any, .any, .any, .any, .any, .sc (.int .i64), .sc (.int .i64), .any, .any, .sc (.int .i64), .any, .any, .any, .any, .any, .any, .any, .any, .any, .any, .any, .any, .any, .any, .any, .any, .any, .any, .any, .any, .any, .any, .any, .any, .any, .any, .any, .any, .any], mem := [.live [.xs .bool none] (.ro), .live [.xs (.int .u8) none] (.own)] }
  ks := [.nat, .int, .nat, .int, .int, .int, .int, .int, .nat, .xs, .nat, .xs]
  st := fun x => { tmps := [.one (.sc (.vec 0 x.1 256)), .one (.sc (.int .i64 x.2.1)), .one .any, .one .any, .one .any, .one .any, .one (.sc (.vec 1 x.2.2.1 1)), .one (.sc (.int .i64 x.2.2.2.1)), .one (.sc (.int .i64 x.2.2.2.2.1)), .one .any, .one .any, .one .any, .one .any, .one .any, .one .any, .one .any, .one .any, .one .any, .one .any, .one .any, .one .any, .one .any, .one .any, .one .any, .one .any, .one .any, .one .any, .one (.sc (.int .i64 x.2.2.2.2.2.1)), .one (.sc (.int .i64 x.2.2.2.2.2.2.1)), .one .any, .one .any, .one (.sc (.int .i64 x.2.2.2.2.2.2.2.1)), .one .any, .one .any, .one .any, .one .any, .one .any, .one .any, .one .any, .one .any, .one .any, .one .any, .one .any, .one .any, .one .any, .one .any, .one .any, .one .any, .one .any, .one .any, .one .any, .one .any, .one .any, .one .any, .one .any, .one .any, .one .any, .one .any, .one .any, .one .any, .one .any], mem := [.live { segs := [.xs .bool x.2.2.2.2.2.2.2.2.1 x.2.2.2.2.2.2.2.2.2.1], own := .ro }, .live { segs := [.xs (.int .u8) x.2.2.2.2.2.2.2.2.2.2.1 x.2.2.2.2.2.2.2.2.2.2.2.1], own := .own }] }
noncomputable def p_dring_PackHints_l9_F (N : Nat) (β : Type) (x : (Nat × Int × Nat × Int × Int × Int × Int × Int × Nat × List Int × Nat × List Int × Unit)) (kn : (Nat × Int × Nat × Int × Int × Int × Int × Int × Nat × List Int × Nat × List Int × Unit) → Option β) (ke : ((Int × Unit) ⊕ (Nat × Int × Nat × Int × Int × Int × Int × Nat × List Int × Nat × List Int × Unit)) → Option β) : Option β :=
  if (x.2.2.2.2.2.2.2.1 < (256:Int)) then
    if 0 ≤ x.2.2.2.2.1 then (
    if x.2.2.2.2.1 < ((x.1 : Nat) : Int) then (
    if 0 ≤ x.2.2.2.2.2.2.2.1 then (
    if x.2.2.2.2.2.2.2.1 < 256 then (
    if (((x.2.2.2.2.1.toNat) * 256) + (x.2.2.2.2.2.2.2.1.toNat)) < x.2.2.2.2.2.2.2.2.1 then (
    if (¬ ((List.getD x.2.2.2.2.2.2.2.2.2.1 (((x.2.2.2.2.1.toNat) * 256) + (x.2.2.2.2.2.2.2.1.toNat)) 0) ≠ 0)) then
      kn (x.1, x.2.1, x.2.2.1, x.2.2.2.1, x.2.2.2.2.1, x.2.2.2.2.2.1, x.2.2.2.2.2.2.1, (IntKind.i64.wrap (x.2.2.2.2.2.2.2.1 + (1:Int))), x.2.2.2.2.2.2.2.2.1, x.2.2.2.2.2.2.2.2.2.1, x.2.2.2.2.2.2.2.2.2.2.1, x.2.2.2.2.2.2.2.2.2.2.2.1, ())
    else
      if (x.2.2.2.1 = x.2.1) then
        ke (.inl ((3:Int), ()))
      else
        if 0 ≤ x.2.2.2.1 then (
        if x.2.2.2.1 < ((x.2.2.1 : Nat) : Int) then (
        if (x.2.2.2.1.toNat) < x.2.2.2.2.2.2.2.2.2.2.1 then (
        kn (x.1, x.2.1, x.2.2.1, (IntKind.i64.wrap (x.2.2.2.1 + (1:Int))), x.2.2.2.2.1, x.2.2.2.2.2.1, x.2.2.2.2.2.2.1, (IntKind.i64.wrap (x.2.2.2.2.2.2.2.1 + (1:Int))), x.2.2.2.2.2.2.2.2.1, x.2.2.2.2.2.2.2.2.2.1, x.2.2.2.2.2.2.2.2.2.2.1, (List.set x.2.2.2.2.2.2.2.2.2.2.2.1 (x.2.2.2.1.toNat) (IntKind.u8.wrap x.2.2.2.2.2.2.2.1)), ())) else none) else none) else none) else none) else none) else none) else none) else none
  else
    ke (.inr (x.1, x.2.1, x.2.2.1, x.2.2.2.1, x.2.2.2.2.1, x.2.2.2.2.2.1, x.2.2.2.2.2.2.1, x.2.2.2.2.2.2.2.2.1, x.2.2.2.2.2.2.2.2.2.1, x.2.2.2.2.2.2.2.2.2.2.1, x.2.2.2.2.2.2.2.2.2.2.2.1, ()))
noncomputable def p_dring_PackHints_l9_go : Go' ((Int × Unit) ⊕ (Nat × Int × Nat × Int × Int × Int × Int × Nat × List Int × Nat × List Int × Unit)) := fun y K => match y with
  | .inl y => K .ret { tmps := [.one .any, .one .any, .one .any, .one .any, .one (.sc (.nilsl)), .one (.sc (.int .i64 y.1)), .one .any, .one .any, .one .any, .one .any, .one .any, .one .any, .one .any, .one .any, .one .any, .one .any, .one .any, .one .any, .one .any, .one .any, .one .any, .one .any, .one .any, .one .any, .one .any, .one .any, .one .any, .one .any, .one .any, .one .any, .one .any, .one .any, .one .any, .one .any, .one .any, .one .any, .one .any, .one .any, .one .any, .one .any, .one .any, .one .any, .one .any, .one .any, .one .any, .one .any, .one .any, .one .any, .one .any, .one .any, .one .any, .one .any, .one .any, .one .any, .one .any, .one .any, .one .any, .one .any, .one .any, .one .any, .one .any], mem := [] }
  | .inr y => K (.exit 2) { tmps := [.one (.sc (.vec 0 y.1 256)), .one (.sc (.int .i64 y.2.1)), .one .any, .one .any, .one .any, .one .any, .one (.sc (.vec 1 y.2.2.1 1)), .one (.sc (.int .i64 y.2.2.2.1)), .one (.sc (.int .i64 y.2.2.2.2.1)), .one .any, .one .any, .one .any, .one .any, .one .any, .one .any, .one .any, .one .any, .one .any, .one .any, .one .any, .one .any, .one .any, .one .any, .one .any, .one .any, .one .any, .one .any, .one (.sc (.int .i64 y.2.2.2.2.2.1)), .one (.sc (.int .i64 y.2.2.2.2.2.2.1)), .one .any, .one .any, .one .any, .one .any, .one .any, .one .any, .one .any, .one .any, .one .any, .one .any, .one .any, .one .any, .one .any, .one .any, .one .any, .one .any, .one .any, .one .any, .one .any, .one .any, .one .any, .one .any, .one .any, .one .any, .one .any, .one .any, .one .any, .one .any, .one .any, .one .any, .one .any, .one .any], mem := [.live { segs := [.xs .bool y.2.2.2.2.2.2.2.1 y.2.2.2.2.2.2.2.2.1], own := .ro }, .live { segs := [.xs (.int .u8) y.2.2.2.2.2.2.2.2.2.1 y.2.2.2.2.2.2.2.2.2.2.1], own := .own }] }
noncomputable def p_dring_PackHints_l9_L (N : Nat) : LT := upd (LT.nil) 9 (loopE p_dring_PackHints_l9_S N (p_dring_PackHints_l9_F N) p_dring_PackHints_l9_go)
theorem p_dring_PackHints_l9_ok (N : Nat) : OkAll p_dring_PackHints_E p_dring_PackHints_H N (p_dring_PackHints_l9_L N) (subs p_dring_PackHints_c) :=
  addLoop (c := theLoop 9 p_dring_PackHints_c) (OkAll.nil) (by kernel_rfl) (fun x => by kernel_rfl) (fun β x kn ke => by kernel_rfl)
noncomputable def p_dring_PackHints_l6_S : Shape where
  h := { tmps := [.sc (.vec 0 none 256), .sc (.int .i64), .any, .any, .any, .any, .sc (.vec 1 none 1), .sc (.int .i64), .any, .any, .any, .any, .any, .any, .any, .any, .any, .any, .any, .any, .any, .any, .any, .any, .any, .any, .any, .sc (.int .i64), .sc (.int .i64), .any, .any, .any, .any, .any, .any, .any, .any, .any, .any, .any, .any, .any, .any, .any, .any, .any, .any, .any, .any, .any, .any, .any, .any, .any, .any, .any, .any, .any, .any, .any, .any], mem := [.live [.xs .bool none] (.ro), .live [.xs (.int .u8) none] (.own)] }
  ks := [.nat, .int, .nat, .int, .int, .int, .nat, .xs, .nat, .xs]
  st := fun x => { tmps := [.one (.sc (.vec 0 x.1 256)), .one (.sc (.int .i64 x.2.1)), .one .any, .one .any, .one .any, .one .any, .one (.sc (.vec 1 x.2.2.1 1)), .one (.sc (.int .i64 x.2.2.2.1)), .one .any, .one .any, .one .any, .one .any, .one .any, .one .any, .one .any, .one .any, .one .any, .one .any, .one .any, .one .any, .one .any, .one .any, .one .any, .one .any, .one .any, .one .any, .one .any, .one (.sc (.int .i64 x.2.2.2.2.1)), .one (.sc (.int .i64 x.2.2.2.2.2.1)), .one .any, .one .any, .one .any, .one .any, .one .any, .one .any, .one .any, .one .any, .one .any, .one .any, .one .any, .one .any, .one .any, .one .any, .one .any, .one .any, .one .any, .one .any, .one .any, .one .any, .one .any, .one .any, .one .any, .one .any, .one .any, .one .any, .one .any, .one .any, .one .any, .one .any, .one .any, .one .any], mem := [.live { segs := [.xs .bool x.2.2.2.2.2.2.1 x.2.2.2.2.2.2.2.1], own := .ro }, .live { segs := [.xs (.int .u8) x.2.2.2.2.2.2.2.2.1 x.2.2.2.2.2.2.2.2.2.1], own := .own }] }
noncomputable def p_dring_PackHints_l6_F (N : Nat) (β : Type) (x : (Nat × Int × Nat × Int × Int × Int × Nat × List Int × Nat × List Int × Unit)) (kn : (Nat × Int × Nat × Int × Int × Int × Nat × List Int × Nat × List Int × Unit) → Option β) (ke : ((Int × Unit) ⊕ (Nat × Nat × List Int × Unit)) → Option β) : Option β :=
  if (x.2.2.2.2.2.1 < x.2.2.2.2.1) then
    iter (p_dring_PackHints_l9_F N) N (x.1, x.2.1, x.2.2.1, x.2.2.2.1, x.2.2.2.2.2.1, x.2.2.2.2.1, x.2.2.2.2.2.1, (0:Int), x.2.2.2.2.2.2.1, x.2.2.2.2.2.2.2.1, x.2.2.2.2.2.2.2.2.1, x.2.2.2.2.2.2.2.2.2.1, ()) fun y => (match y with
    | .inl y1 => (
      ke (.inl (y1.1, ())))
    | .inr y2 => (
      if 0 ≤ (IntKind.i64.wrap (y2.2.1 + y2.2.2.2.2.1)) then (
      if (IntKind.i64.wrap (y2.2.1 + y2.2.2.2.2.1)) < ((y2.2.2.1 : Nat) : Int) then (
      if ((IntKind.i64.wrap (y2.2.1 + y2.2.2.2.2.1)).toNat) < y2.2.2.2.2.2.2.2.2.2.1 then (
      kn (y2.1, y2.2.1, y2.2.2.1, y2.2.2.2.1, y2.2.2.2.2.2.1, (IntKind.i64.wrap (y2.2.2.2.2.2.2.1 + (1:Int))), y2.2.2.2.2.2.2.2.1, y2.2.2.2.2.2.2.2.2.1, y2.2.2.2.2.2.2.2.2.2.1, (List.set y2.2.2.2.2.2.2.2.2.2.2.1 ((IntKind.i64.wrap (y2.2.1 + y2.2.2.2.2.1)).toNat) (IntKind.u8.wrap y2.2.2.2.1)), ())) else none) else none) else none))
  else
    ke (.inr (x.2.2.1, x.2.2.2.2.2.2.2.2.1, x.2.2.2.2.2.2.2.2.2.1, ()))
noncomputable def p_dring_PackHints_l6_go : Go' ((Int × Unit) ⊕ (Nat × Nat × List Int × Unit)) := fun y K => match y with
  | .inl y => K .ret { tmps := [.one .any, .one .any, .one .any, .one .any, .one (.sc (.nilsl)), .one (.sc (.int .i64 y.1)), .one .any, .one .any, .one .any, .one .any, .one .any, .one .any, .one .any, .one .any, .one .any, .one .any, .one .any, .one .any, .one .any, .one .any, .one .any, .one .any, .one .any, .one .any, .one .any, .one .any, .one .any, .one .any, .one .any, .one .any, .one .any, .one .any, .one .any, .one .any, .one .any, .one .any, .one .any, .one .any, .one .any, .one .any, .one .any, .one .any, .one .any, .one .any, .one .any, .one .any, .one .any, .one .any, .one .any, .one .any, .one .any, .one .any, .one .any, .one .any, .one .any, .one .any, .one .any, .one .any, .one .any, .one .any, .one .any], mem := [] }
  | .inr y => K (.exit 0) { tmps := [.one .any, .one .any, .one .any, .one .any, .one .any, .one .any, .one (.sc (.vec 0 y.1 1)), .one .any, .one .any, .one .any, .one .any, .one .any, .one .any, .one .any, .one .any, .one .any, .one .any, .one .any, .one .any, .one .any, .one .any, .one .any, .one .any, .one .any, .one .any, .one .any, .one .any, .one .any, .one .any, .one .any, .one .any, .one .any, .one .any, .one .any, .one .any, .one .any, .one .any, .one .any, .one .any, .one .any, .one .any, .one .any, .one .any, .one .any, .one .any, .one .any, .one .any, .one .any, .one .any, .one .any, .one .any, .one .any, .one .any, .one .any, .one .any, .one .any, .one .any, .one .any, .one .any, .one .any, .one .any], mem := [.live { segs := [.xs (.int .u8) y.2.1 y.2.2.1], own := .own }] }
noncomputable def p_dring_PackHints_l6_L (N : Nat) : LT := upd (p_dring_PackHints_l9_L N) 6 (loopE p_dring_PackHints_l6_S N (p_dring_PackHints_l6_F N) p_dring_PackHints_l6_go)
theorem p_dring_PackHints_l6_ok (N : Nat) : OkAll p_dring_PackHints_E p_dring_PackHints_H N (p_dring_PackHints_l6_L N) (subs p_dring_PackHints_c) :=
  addLoop (c := theLoop 6 p_dring_PackHints_c) (p_dring_PackHints_l9_ok N) (by kernel_rfl) (fun x => by kernel_rfl) (fun β x kn ke => by kernel_rfl)
abbrev p_dring_PackHints_ks : List Kd := [.sla .bool 256, .int .i64]
abbrev p_dring_PackHints_rs : List Kd := [.sl (.int .u8), .int .i64]
noncomputable def p_dring_PackHints (N : Nat) (x : List Int × Int × Unit) : Option (List Int × Int) :=
  if ((((List.length x.1 / 256) : Nat) : Int) > (16:Int)) then
    some ([], (1:Int))
  else
    if (x.2.1 < (0:Int)) then
      some ([], (1:Int))
    else
      if (x.2.1 > (255:Int)) then
        some ([], (1:Int))
      else
        if 0 ≤ (IntKind.i64.wrap (x.2.1 + (((List.length x.1 / 256) : Nat) : Int))) then (
        if (IntKind.i64.wrap (x.2.1 + (((List.length x.1 / 256) : Nat) : Int))) = (IntKind.i64.wrap (x.2.1 + (((List.length x.1 / 256) : Nat) : Int))) then (
        if (IntKind.i64.wrap (x.2.1 + (((List.length x.1 / 256) : Nat) : Int))) * 1 ≤ 281474976710656 then (
        iter (p_dring_PackHints_l6_F N) N ((List.length x.1 / 256), x.2.1, ((IntKind.i64.wrap (x.2.1 + (((List.length x.1 / 256) : Nat) : Int))).toNat), (0:Int), (((List.length x.1 / 256) : Nat) : Int), (0:Int), (List.length x.1), x.1, ((IntKind.i64.wrap (x.2.1 + (((List.length x.1 / 256) : Nat) : Int))).toNat), (List.replicate ((IntKind.i64.wrap (x.2.1 + (((List.length x.1 / 256) : Nat) : Int))).toNat) 0), ()) fun y => (match y with
        | .inl y3 => (
          some ([], y3.1))
        | .inr y4 => (
          some (y4.2.2.1, (0:Int))))) else none) else none) else none
theorem p_dring_PackHints_eq (N : Nat) (x : Ds [.sla .bool 256, .int .i64]) : funL p_dring_PackHints_E p_dring_PackHints_H (p_dring_PackHints_l6_L N) N Go.Proofs.Try.f25 p_dring_PackHints_c [.sla .bool 256, .int .i64] [.sl (.int .u8), .int .i64] x = p_dring_PackHints N x := by kernel_rfl
theorem p_dring_PackHints_Eok : p_dring_PackHints_E.Ok Go.Proofs.Try.prog := AE.of_ok (all_cons ty3_ok (all_cons ty4_ok (all_cons ty5_ok (all_cons ty31_ok (all_cons ty38_ok (all_cons ty39_ok all_nil)))))) all_nil
theorem p_dring_PackHints_ok {g : Ds [.sla .bool 256, .int .i64] → Option (Rs [.sl (.int .u8), .int .i64])} (hg : ∀ x r, g x = some r → ∃ N, p_dring_PackHints N x = some r) : SigOk Go.Proofs.Try.prog 25 ⟨[.sla .bool 256, .int .i64], [.sl (.int .u8), .int .i64], g⟩ :=
  fun_of (E := p_dring_PackHints_E) (H := p_dring_PackHints_H) (L := fun N => p_dring_PackHints_l6_L N) (c := p_dring_PackHints_c) (ks := p_dring_PackHints_ks) (rs := p_dring_PackHints_rs) (F := p_dring_PackHints) (p_dring_PackHints_Eok) mix Go.Proofs.Try.func25 (by kernel_rfl) (fun N => p_dring_PackHints_l6_ok N) p_dring_PackHints_eq hg

/-! livery/liveryref15.PackHints -/
noncomputable def p_ref15_PackHints_E : AE := AE.of [(3, ty3), (4, ty4), (5, ty5), (31, ty31), (38, ty38), (39, ty39)] []
noncomputable def p_ref15_PackHints_H : Hints := [(5, [0, 1, 6, 7, 24, 25]), (8, [0, 1, 6, 7, 8, 24, 25, 28]), (17, [1, 6, 7]), (2000000, [1, 6, 7]), (2000001, [0, 1, 6, 7, 24, 25]), (2000002, [0, 1, 6, 7, 24, 25]), (2000003, [0, 1, 6, 7, 8, 24, 25, 28]), (2000004, [6, 7]), (2000005, [1, 6, 7]), (3000000, [4, 5])]
noncomputable def p_ref15_PackHints_c : Code := (Go.Proofs.Try.f26).body.getD .skip
noncomputable def p_ref15_PackHints_l8_S : Shape where
  h := { tmps := [.sc (.vec 0 none 256), .sc (.int .i64), .any, .any, .any, .any, .sc (.vec 1 none 1), .sc (.vec 2 none 1), .sc (.int .i64), .any, .any, .any, .any, .any, .any, .any, .any, .any, .any, .any, .any, .any, .any, .any, .sc (.int .i64), .sc (.int .i64), .any, .any, .sc (.int .i64), .any, .any, .any, .any, .any, .any, .any, .any, .any, .any, .any, .any, .any, .any, .any, .any, .any, .any, .any, .any, .any, .any, .any, .any, .any, .any, .any, .any, .any, .any, .any, .any, .any, .any, .any], mem := [.live [.xs .bool none] (.ro), .live [.xs (.int .u8) none] (.own), .live [.xs (.int .u8) none] (.own)] }
  ks := [.nat, .int, .nat, .nat, .int, .int, .int, .int, .nat, .xs, .nat, .xs, .nat, .xs]
  st := fun x => { tmps := [.one (.sc (.vec 0 x.1 256)), .one (.sc (.int .i64 x.2.1)), .one .any, .one .any, .one .any, .one .any, .one (.sc (.vec 1 x.2.2.1 1)), .one (.sc (.vec 2 x.2.2.2.1 1)), .one (.sc (.int .i64 x.2.2.2.2.1)), .one .any, .one .any, .one .any, .one .any, .one .any, .one .any, .one .any, .one .any, .one .any, .one .any, .one .any, .one .any, .one .any, .one .any, .one .any, .one (.sc (.int .i64 x.2.2.2.2.2.1)), .one (.sc (.int .i64 x.2.2.2.2.2.2.1)), .one .any, .one .any, .one (.sc (.int .i64 x.2.2.2.2.2.2.2.1)), .one .any, .one .any, .one .any, .one .any, .one .any, .one .any, .one .any, .one .any, .one .any, .one .any, .one .any, .one .any, .one .any, .one .any, .one .any, .one .any, .one .any, .one .any, .one .any, .one .any, .one .any, .one .any, .one .any, .one .any, .one .any, .one .any, .one .any, .one .any, .one .any, .one .any, .one .any, .one .any, .one .any, .one .any, .one .any], mem := [.live { segs := [.xs .bool x.2.2.2.2.2.2.2.2.1 x.2.2.2.2.2.2.2.2.2.1], own := .ro }, .live { segs := [.xs (.int .u8) x.2.2.2.2.2.2.2.2.2.2.1 x.2.2.2.2.2.2.2.2.2.2.2.1], own := .own }, .live { segs := [.xs (.int .u8) x.2.2.2.2.2.2.2.2.2.2.2.2.1 x.2.2.2.2.2.2.2.2.2.2.2.2.2.1], own := .own }] }
noncomputable def p_ref15_PackHints_l8_F (N : Nat) (β : Type) (x : (Nat × Int × Nat × Nat × Int × Int × Int × Int × Nat × List Int × Nat × List Int × Nat × List Int × Unit)) (kn : (Nat × Int × Nat × Nat × Int × Int × Int × Int × Nat × List Int × Nat × List Int × Nat × List Int × Unit) → Option β) (ke : ((Nat × Int × Nat × Nat × Int × Int × Nat × List Int × Nat × List Int × Nat × List Int × Unit)) → Option β) : Option β :=
  if (x.2.2.2.2.2.2.2.1 < (256:Int)) then
    if 0 ≤ x.2.2.2.2.1 then (
    if x.2.2.2.2.1 < ((x.1 : Nat) : Int) then (
    if 0 ≤ x.2.2.2.2.2.2.2.1 then (
    if x.2.2.2.2.2.2.2.1 < 256 then (
    if (((x.2.2.2.2.1.toNat) * 256) + (x.2.2.2.2.2.2.2.1.toNat)) < x.2.2.2.2.2.2.2.2.1 then (
    if ((List.getD x.2.2.2.2.2.2.2.2.2.1 (((x.2.2.2.2.1.toNat) * 256) + (x.2.2.2.2.2.2.2.1.toNat)) 0) ≠ 0) then
      if (x.2.2.1 + 1) * 1 ≤ 140737488355328 then (
      kn (x.1, x.2.1, (x.2.2.1 + 1), x.2.2.2.1, x.2.2.2.2.1, x.2.2.2.2.2.1, x.2.2.2.2.2.2.1, (IntKind.i64.wrap (x.2.2.2.2.2.2.2.1 + (1:Int))), x.2.2.2.2.2.2.2.2.1, x.2.2.2.2.2.2.2.2.2.1, (x.2.2.2.2.2.2.2.2.2.2.1 + 1), (x.2.2.2.2.2.2.2.2.2.2.2.1 ++ (List.set (List.replicate 1 0) 0 (IntKind.u8.wrap x.2.2.2.2.2.2.2.1))), x.2.2.2.2.2.2.2.2.2.2.2.2.1, x.2.2.2.2.2.2.2.2.2.2.2.2.2.1, ())) else none
    else
      kn (x.1, x.2.1, x.2.2.1, x.2.2.2.1, x.2.2.2.2.1, x.2.2.2.2.2.1, x.2.2.2.2.2.2.1, (IntKind.i64.wrap (x.2.2.2.2.2.2.2.1 + (1:Int))), x.2.2.2.2.2.2.2.2.1, x.2.2.2.2.2.2.2.2.2.1, x.2.2.2.2.2.2.2.2.2.2.1, x.2.2.2.2.2.2.2.2.2.2.2.1, x.2.2.2.2.2.2.2.2.2.2.2.2.1, x.2.2.2.2.2.2.2.2.2.2.2.2.2.1, ())) else none) else none) else none) else none) else none
  else
    ke (x.1, x.2.1, x.2.2.1, x.2.2.2.1, x.2.2.2.2.2.1, x.2.2.2.2.2.2.1, x.2.2.2.2.2.2.2.2.1, x.2.2.2.2.2.2.2.2.2.1, x.2.2.2.2.2.2.2.2.2.2.1, x.2.2.2.2.2.2.2.2.2.2.2.1, x.2.2.2.2.2.2.2.2.2.2.2.2.1, x.2.2.2.2.2.2.2.2.2.2.2.2.2.1, ())
noncomputable def p_ref15_PackHints_l8_go : Go' ((Nat × Int × Nat × Nat × Int × Int × Nat × List Int × Nat × List Int × Nat × List Int × Unit)) := fun y K => K (.exit 2) { tmps := [.one (.sc (.vec 0 y.1 256)), .one (.sc (.int .i64 y.2.1)), .one .any, .one .any, .one .any, .one .any, .one (.sc (.vec 1 y.2.2.1 1)), .one (.sc (.vec 2 y.2.2.2.1 1)), .one .any, .one .any, .one .any, .one .any, .one .any, .one .any, .one .any, .one .any, .one .any, .one .any, .one .any, .one .any, .one .any, .one .any, .one .any, .one .any, .one (.sc (.int .i64 y.2.2.2.2.1)), .one (.sc (.int .i64 y.2.2.2.2.2.1)), .one .any, .one .any, .one .any, .one .any, .one .any, .one .any, .one .any, .one .any, .one .any, .one .any, .one .any, .one .any, .one .any, .one .any, .one .any, .one .any, .one .any, .one .any, .one .any, .one .any, .one .any, .one .any, .one .any, .one .any, .one .any, .one .any, .one .any, .one .any, .one .any, .one .any, .one .any, .one .any, .one .any, .one .any, .one .any, .one .any, .one .any, .one .any], mem := [.live { segs := [.xs .bool y.2.2.2.2.2.2.1 y.2.2.2.2.2.2.2.1], own := .ro }, .live { segs := [.xs (.int .u8) y.2.2.2.2.2.2.2.2.1 y.2.2.2.2.2.2.2.2.2.1], own := .own }, .live { segs := [.xs (.int .u8) y.2.2.2.2.2.2.2.2.2.2.1 y.2.2.2.2.2.2.2.2.2.2.2.1], own := .own }] }
noncomputable def p_ref15_PackHints_l8_L (N : Nat) : LT := upd (LT.nil) 8 (loopE p_ref15_PackHints_l8_S N (p_ref15_PackHints_l8_F N) p_ref15_PackHints_l8_go)
theorem p_ref15_PackHints_l8_ok (N : Nat) : OkAll p_ref15_PackHints_E p_ref15_PackHints_H N (p_ref15_PackHints_l8_L N) (subs p_ref15_PackHints_c) :=
  addLoop (c := theLoop 8 p_ref15_PackHints_c) (OkAll.nil) (by kernel_rfl) (fun x => by kernel_rfl) (fun β x kn ke => by kernel_rfl)
noncomputable def p_ref15_PackHints_l5_S : Shape where
  h := { tmps := [.sc (.vec 0 none 256), .sc (.int .i64), .any, .any, .any, .any, .sc (.vec 1 none 1), .sc (.vec 2 none 1), .any, .any, .any, .any, .any, .any, .any, .any, .any, .any, .any, .any, .any, .any, .any, .any, .sc (.int .i64), .sc (.int .i64), .any, .any, .any, .any, .any, .any, .any, .any, .any, .any, .any, .any, .any, .any, .any, .any, .any, .any, .any, .any, .any, .any, .any, .any, .any, .any, .any, .any, .any, .any, .any, .any, .any, .any, .any, .any, .any, .any], mem := [.live [.xs .bool none] (.ro), .live [.xs (.int .u8) none] (.own), .live [.xs (.int .u8) none] (.own)] }
  ks := [.nat, .int, .nat, .nat, .int, .int, .nat, .xs, .nat, .xs, .nat, .xs]
  st := fun x => { tmps := [.one (.sc (.vec 0 x.1 256)), .one (.sc (.int .i64 x.2.1)), .one .any, .one .any, .one .any, .one .any, .one (.sc (.vec 1 x.2.2.1 1)), .one (.sc (.vec 2 x.2.2.2.1 1)), .one .any, .one .any, .one .any, .one .any, .one .any, .one .any, .one .any, .one .any, .one .any, .one .any, .one .any, .one .any, .one .any, .one .any, .one .any, .one .any, .one (.sc (.int .i64 x.2.2.2.2.1)), .one (.sc (.int .i64 x.2.2.2.2.2.1)), .one .any, .one .any, .one .any, .one .any, .one .any, .one .any, .one .any, .one .any, .one .any, .one .any, .one .any, .one .any, .one .any, .one .any, .one .any, .one .any, .one .any, .one .any, .one .any, .one .any, .one .any, .one .any, .one .any, .one .any, .one .any, .one .any, .one .any, .one .any, .one .any, .one .any, .one .any, .one .any, .one .any, .one .any, .one .any, .one .any, .one .any, .one .any], mem := [.live { segs := [.xs .bool x.2.2.2.2.2.2.1 x.2.2.2.2.2.2.2.1], own := .ro }, .live { segs := [.xs (.int .u8) x.2.2.2.2.2.2.2.2.1 x.2.2.2.2.2.2.2.2.2.1], own := .own }, .live { segs := [.xs (.int .u8) x.2.2.2.2.2.2.2.2.2.2.1 x.2.2.2.2.2.2.2.2.2.2.2.1], own := .own }] }
noncomputable def p_ref15_PackHints_l5_F (N : Nat) (β : Type) (x : (Nat × Int × Nat × Nat × Int × Int × Nat × List Int × Nat × List Int × Nat × List Int × Unit)) (kn : (Nat × Int × Nat × Nat × Int × Int × Nat × List Int × Nat × List Int × Nat × List Int × Unit) → Option β) (ke : ((Int × Unit) ⊕ (Int × Nat × Nat × Nat × List Int × Nat × List Int × Unit)) → Option β) : Option β :=
  if (x.2.2.2.2.2.1 < x.2.2.2.2.1) then
    iter (p_ref15_PackHints_l8_F N) N (x.1, x.2.1, x.2.2.1, x.2.2.2.1, x.2.2.2.2.2.1, x.2.2.2.2.1, x.2.2.2.2.2.1, (0:Int), x.2.2.2.2.2.2.1, x.2.2.2.2.2.2.2.1, x.2.2.2.2.2.2.2.2.1, x.2.2.2.2.2.2.2.2.2.1, x.2.2.2.2.2.2.2.2.2.2.1, x.2.2.2.2.2.2.2.2.2.2.2.1, ()) fun y1 => (
    if (((y1.2.2.1 : Nat) : Int) > y1.2.1) then
      ke (.inl ((3:Int), ()))
    else
      if (y1.2.2.2.1 + 1) * 1 ≤ 140737488355328 then (
      kn (y1.1, y1.2.1, y1.2.2.1, (y1.2.2.2.1 + 1), y1.2.2.2.2.1, (IntKind.i64.wrap (y1.2.2.2.2.2.1 + (1:Int))), y1.2.2.2.2.2.2.1, y1.2.2.2.2.2.2.2.1, y1.2.2.2.2.2.2.2.2.1, y1.2.2.2.2.2.2.2.2.2.1, (y1.2.2.2.2.2.2.2.2.2.2.1 + 1), (y1.2.2.2.2.2.2.2.2.2.2.2.1 ++ (List.set (List.replicate 1 0) 0 (IntKind.u8.wrap ((y1.2.2.1 : Nat) : Int)))), ())) else none)
  else
    ke (.inr (x.2.1, x.2.2.1, x.2.2.2.1, x.2.2.2.2.2.2.2.2.1, x.2.2.2.2.2.2.2.2.2.1, x.2.2.2.2.2.2.2.2.2.2.1, x.2.2.2.2.2.2.2.2.2.2.2.1, ()))
noncomputable def p_ref15_PackHints_l5_go : Go' ((Int × Unit) ⊕ (Int × Nat × Nat × Nat × List Int × Nat × List Int × Unit)) := fun y K => match y with
  | .inl y => K .ret { tmps := [.one .any, .one .any, .one .any, .one .any, .one (.sc (.nilsl)), .one (.sc (.int .i64 y.1)), .one .any, .one .any, .one .any, .one .any, .one .any, .one .any, .one .any, .one .any, .one .any, .one .any, .one .any, .one .any, .one .any, .one .any, .one .any, .one .any, .one .any, .one .any, .one .any, .one .any, .one .any, .one .any, .one .any, .one .any, .one .any, .one .any, .one .any, .one .any, .one .any, .one .any, .one .any, .one .any, .one .any, .one .any, .one .any, .one .any, .one .any, .one .any, .one .any, .one .any, .one .any, .one .any, .one .any, .one .any, .one .any, .one .any, .one .any, .one .any, .one .any, .one .any, .one .any, .one .any, .one .any, .one .any, .one .any, .one .any, .one .any, .one .any], mem := [] }
  | .inr y => K (.exit 0) { tmps := [.one .any, .one (.sc (.int .i64 y.1)), .one .any, .one .any, .one .any, .one .any, .one (.sc (.vec 0 y.2.1 1)), .one (.sc (.vec 1 y.2.2.1 1)), .one .any, .one .any, .one .any, .one .any, .one .any, .one .any, .one .any, .one .any, .one .any, .one .any, .one .any, .one .any, .one .any, .one .any, .one .any, .one .any, .one .any, .one .any, .one .any, .one .any, .one .any, .one .any, .one .any, .one .any, .one .any, .one .any, .one .any, .one .any, .one .any, .one .any, .one .any, .one .any, .one .any, .one .any, .one .any, .one .any, .one .any, .one .any, .one .any, .one .any, .one .any, .one .any, .one .any, .one .any, .one .any, .one .any, .one .any, .one .any, .one .any, .one .any, .one .any, .one .any, .one .any, .one .any, .one .any, .one .any], mem := [.live { segs := [.xs (.int .u8) y.2.2.2.1 y.2.2.2.2.1], own := .own }, .live { segs := [.xs (.int .u8) y.2.2.2.2.2.1 y.2.2.2.2.2.2.1], own := .own }] }
noncomputable def p_ref15_PackHints_l5_L (N : Nat) : LT := upd (p_ref15_PackHints_l8_L N) 5 (loopE p_ref15_PackHints_l5_S N (p_ref15_PackHints_l5_F N) p_ref15_PackHints_l5_go)
theorem p_ref15_PackHints_l5_ok (N : Nat) : OkAll p_ref15_PackHints_E p_ref15_PackHints_H N (p_ref15_PackHints_l5_L N) (subs p_ref15_PackHints_c) :=
  addLoop (c := theLoop 5 p_ref15_PackHints_c) (p_ref15_PackHints_l8_ok N) (by kernel_rfl) (fun x => by kernel_rfl) (fun β x kn ke => by kernel_rfl)
noncomputable def p_ref15_PackHints_l17_S : Shape where
  h := { tmps := [.any, .sc (.int .i64), .any, .any, .any, .any, .sc (.vec 0 none 1), .sc (.vec 1 none 1), .any, .any, .any, .any, .any, .any, .any, .any, .any, .any, .any, .any, .any, .any, .any, .any, .any, .any, .any, .any, .any, .any, .any, .any, .any, .any, .any, .any, .any, .any, .any, .any, .any, .any, .any, .any, .any, .any, .any, .any, .any, .any, .any, .any, .any, .any, .any, .any, .any, .any, .any, .any, .any, .any, .any, .any], mem := [.live [.xs (.int .u8) none] (.own), .live [.xs (.int .u8) none] (.own)] }
  ks := [.int, .nat, .nat, .nat, .xs, .nat, .xs]
  st := fun x => { tmps := [.one .any, .one (.sc (.int .i64 x.1)), .one .any, .one .any, .one .any, .one .any, .one (.sc (.vec 0 x.2.1 1)), .one (.sc (.vec 1 x.2.2.1 1)), .one .any, .one .any, .one .any, .one .any, .one .any, .one .any, .one .any, .one .any, .one .any, .one .any, .one .any, .one .any, .one .any, .one .any, .one .any, .one .any, .one .any, .one .any, .one .any, .one .any, .one .any, .one .any, .one .any, .one .any, .one .any, .one .any, .one .any, .one .any, .one .any, .one .any, .one .any, .one .any, .one .any, .one .any, .one .any, .one .any, .one .any, .one .any, .one .any, .one .any, .one .any, .one .any, .one .any, .one .any, .one .any, .one .any, .one .any, .one .any, .one .any, .one .any, .one .any, .one .any, .one .any, .one .any, .one .any, .one .any], mem := [.live { segs := [.xs (.int .u8) x.2.2.2.1 x.2.2.2.2.1], own := .own }, .live { segs := [.xs (.int .u8) x.2.2.2.2.2.1 x.2.2.2.2.2.2.1], own := .own }] }
noncomputable def p_ref15_PackHints_l17_F (N : Nat) (β : Type) (x : (Int × Nat × Nat × Nat × List Int × Nat × List Int × Unit)) (kn : (Int × Nat × Nat × Nat × List Int × Nat × List Int × Unit) → Option β) (ke : ((Nat × Nat × Nat × List Int × Nat × List Int × Unit)) → Option β) : Option β :=
  if (((x.2.1 : Nat) : Int) < x.1) then
    if (x.2.1 + 1) * 1 ≤ 140737488355328 then (
    kn (x.1, (x.2.1 + 1), x.2.2.1, (x.2.2.2.1 + 1), (x.2.2.2.2.1 ++ (List.set (List.replicate 1 0) 0 (0:Int))), x.2.2.2.2.2.1, x.2.2.2.2.2.2.1, ())) else none
  else
    ke (x.2.1, x.2.2.1, x.2.2.2.1, x.2.2.2.2.1, x.2.2.2.2.2.1, x.2.2.2.2.2.2.1, ())
noncomputable def p_ref15_PackHints_l17_go : Go' ((Nat × Nat × Nat × List Int × Nat × List Int × Unit)) := fun y K => K (.exit 4) { tmps := [.one .any, .one .any, .one .any, .one .any, .one .any, .one .any, .one (.sc (.vec 0 y.1 1)), .one (.sc (.vec 1 y.2.1 1)), .one .any, .one .any, .one .any, .one .any, .one .any, .one .any, .one .any, .one .any, .one .any, .one .any, .one .any, .one .any, .one .any, .one .any, .one .any, .one .any, .one .any, .one .any, .one .any, .one .any, .one .any, .one .any, .one .any, .one .any, .one .any, .one .any, .one .any, .one .any, .one .any, .one .any, .one .any, .one .any, .one .any, .one .any, .one .any, .one .any, .one .any, .one .any, .one .any, .one .any, .one .any, .one .any, .one .any, .one .any, .one .any, .one .any, .one .any, .one .any, .one .any, .one .any, .one .any, .one .any, .one .any, .one .any, .one .any, .one .any], mem := [.live { segs := [.xs (.int .u8) y.2.2.1 y.2.2.2.1], own := .own }, .live { segs := [.xs (.int .u8) y.2.2.2.2.1 y.2.2.2.2.2.1], own := .own }] }
noncomputable def p_ref15_PackHints_l17_L (N : Nat) : LT := upd (p_ref15_PackHints_l5_L N) 17 (loopE p_ref15_PackHints_l17_S N (p_ref15_PackHints_l17_F N) p_ref15_PackHints_l17_go)
theorem p_ref15_PackHints_l17_ok (N : Nat) : OkAll p_ref15_PackHints_E p_ref15_PackHints_H N (p_ref15_PackHints_l17_L N) (subs p_ref15_PackHints_c) :=
  addLoop (c := theLoop 17 p_ref15_PackHints_c) (p_ref15_PackHints_l5_ok N) (by kernel_rfl) (fun x => by kernel_rfl) (fun β x kn ke => by kernel_rfl)
abbrev p_ref15_PackHints_ks : List Kd := [.sla .bool 256, .int .i64]
abbrev p_ref15_PackHints_rs : List Kd := [.sl (.int .u8), .int .i64]
noncomputable def p_ref15_PackHints (N : Nat) (x : List Int × Int × Unit) : Option (List Int × Int) :=
  if ((((List.length x.1 / 256) : Nat) : Int) > (16:Int)) then
    some ([], (1:Int))
  else
    if (x.2.1 < (0:Int)) then
      some ([], (1:Int))
    else
      if (x.2.1 > (255:Int)) then
        some ([], (1:Int))
      else
        iter (p_ref15_PackHints_l5_F N) N ((List.length x.1 / 256), x.2.1, 0, 0, (((List.length x.1 / 256) : Nat) : Int), (0:Int), (List.length x.1), x.1, 0, (List.replicate 0 0), 0, (List.replicate 0 0), ()) fun y => (match y with
        | .inl y2 => (
          some ([], y2.1))
        | .inr y3 => (
          iter (p_ref15_PackHints_l17_F N) N (y3.1, y3.2.1, y3.2.2.1, y3.2.2.2.1, y3.2.2.2.2.1, y3.2.2.2.2.2.1, y3.2.2.2.2.2.2.1, ()) fun y4 => (
          if (y4.1 + y4.2.1) * 1 ≤ 140737488355328 then (
          some ((y4.2.2.2.1 ++ y4.2.2.2.2.2.1), (0:Int))) else none)))
theorem p_ref15_PackHints_eq (N : Nat) (x : Ds [.sla .bool 256, .int .i64]) : funL p_ref15_PackHints_E p_ref15_PackHints_H (p_ref15_PackHints_l17_L N) N Go.Proofs.Try.f26 p_ref15_PackHints_c [.sla .bool 256, .int .i64] [.sl (.int .u8), .int .i64] x = p_ref15_PackHints N x := by kernel_rfl
theorem p_ref15_PackHints_Eok : p_ref15_PackHints_E.Ok Go.Proofs.Try.prog := AE.of_ok (all_cons ty3_ok (all_cons ty4_ok (all_cons ty5_ok (all_cons ty31_ok (all_cons ty38_ok (all_cons ty39_ok all_nil)))))) all_nil
theorem p_ref15_PackHints_ok {g : Ds [.sla .bool 256, .int .i64] → Option (Rs [.sl (.int .u8), .int .i64])} (hg : ∀ x r, g x = some r → ∃ N, p_ref15_PackHints N x = some r) : SigOk Go.Proofs.Try.prog 26 ⟨[.sla .bool 256, .int .i64], [.sl (.int .u8), .int .i64], g⟩ :=
  fun_of (E := p_ref15_PackHints_E) (H := p_ref15_PackHints_H) (L := fun N => p_ref15_PackHints_l17_L N) (c := p_ref15_PackHints_c) (ks := p_ref15_PackHints_ks) (rs := p_ref15_PackHints_rs) (F := p_ref15_PackHints) (p_ref15_PackHints_Eok) mix Go.Proofs.Try.func26 (by kernel_rfl) (fun N => p_ref15_PackHints_l17_ok N) p_ref15_PackHints_eq hg

/-! livery/dring.UnpackHints -/
noncomputable def p_dring_UnpackHints_E : AE := AE.of [(3, ty3), (4, ty4), (5, ty5), (31, ty31), (38, ty38), (39, ty39)] []
noncomputable def p_dring_UnpackHints_H : Hints := [(6, [1, 2, 8, 9, 40, 41]), (12, [1, 2, 8, 9, 10, 11, 12, 40, 41]), (20, [8, 93, 94, 95]), (2000000, [1, 2, 8, 9]), (2000001, [1, 2, 8, 9, 40, 41]), (2000002, [1, 2, 8, 11, 40, 41]), (2000003, [1, 2, 8, 9, 10, 11, 12, 40, 41]), (2000004, [8]), (2000005, [8, 93, 94, 95]), (3000000, [6, 7])]
noncomputable def p_dring_UnpackHints_c : Code := (Go.Proofs.Try.f27).body.getD .skip
noncomputable def p_dring_UnpackHints_l12_S : Shape where
  h := { tmps := [.any, .sc (.int .i64), .sc (.vec 0 none 1), .any, .any, .any, .any, .any, .sc (.vec 1 none 256), .sc (.int .i64), .sc (.int .i64), .sc (.int .i64), .sc (.int .i64), .any, .any, .any, .any, .any, .any, .any, .any, .any, .any, .any, .any, .any, .any, .any, .any, .any, .any, .any, .any, .any, .any, .any, .any, .any, .any, .any, .sc (.int .i64), .sc (.int .i64), .any, .any, .any, .any, .any, .any, .any, .any, .any, .any, .any, .any, .any, .any, .any, .any, .any, .any, .any, .any, .any, .any, .any, .any, .any, .any, .any, .any, .any, .any, .any, .any, .any, .any, .any, .any, .any, .any, .any, .any, .any, .any, .any, .any, .any, .any, .any, .any, .any, .any, .any, .any, .any, .any, .any, .any, .any, .any, .any, .any, .any], mem := [.live [.xs (.int .u8) none] (.ro), .live [.xs .bool none] (.own)] }
  ks := [.int, .nat, .nat, .int, .int, .int, .int, .int, .int, .nat, .xs, .nat, .xs]
  st := fun x => { tmps := [.one .any, .one (.sc (.int .i64 x.1)), .one (.sc (.vec 0 x.2.1 1)), .one .any, .one .any, .one .any, .one .any, .one .any, .one (.sc (.vec 1 x.2.2.1 256)), .one (.sc (.int .i64 x.2.2.2.1)), .one (.sc (.int .i64 x.2.2.2.2.1)), .one (.sc (.int .i64 x.2.2.2.2.2.1)), .one (.sc (.int .i64 x.2.2.2.2.2.2.1)), .one .any, .one .any, .one .any, .one .any, .one .any, .one .any, .one .any, .one .any, .one .any, .one .any, .one .any, .one .any, .one .any, .one .any, .one .any, .one .any, .one .any, .one .any, .one .any, .one .any, .one .any, .one .any, .one .any, .one .any, .one .any, .one .any, .one .any, .one (.sc (.int .i64 x.2.2.2.2.2.2.2.1)), .one (.sc (.int .i64 x.2.2.2.2.2.2.2.2.1)), .one .any, .one .any, .one .any, .one .any, .one .any, .one .any, .one .any, .one .any, .one .any, .one .any, .one .any, .one .any, .one .any, .one .any, .one .any, .one .any, .one .any, .one .any, .one .any, .one .any, .one .any, .one .any, .one .any, .one .any, .one .any, .one .any, .one .any, .one .any, .one .any, .one .any, .one .any, .one .any, .one .any, .one .any, .one .any, .one .any, .one .any, .one .any, .one .any, .one .any, .one .any, .one .any, .one .any, .one .any, .one .any, .one .any, .one .any, .one .any, .one .any, .one .any, .one .any, .one .any, .one .any, .one .any, .one .any, .one .any, .one .any, .one .any, .one .any, .one .any, .one .any], mem := [.live { segs := [.xs (.int .u8) x.2.2.2.2.2.2.2.2.2.1 x.2.2.2.2.2.2.2.2.2.2.1], own := .ro }, .live { segs := [.xs .bool x.2.2.2.2.2.2.2.2.2.2.2.1 x.2.2.2.2.2.2.2.2.2.2.2.2.1], own := .own }] }
noncomputable def p_dring_UnpackHints_l12_F (N : Nat) (β : Type) (x : (Int × Nat × Nat × Int × Int × Int × Int × Int × Int × Nat × List Int × Nat × List Int × Unit)) (kn : (Int × Nat × Nat × Int × Int × Int × Int × Int × Int × Nat × List Int × Nat × List Int × Unit) → Option β) (ke : ((Int × Unit) ⊕ (Int × Nat × Nat × Int × Int × Int × Nat × List Int × Nat × List Int × Unit)) → Option β) : Option β :=
  if (x.2.2.2.2.2.2.1 < x.2.2.2.2.2.1) then
    if (x.2.2.2.2.2.2.1 > x.2.2.2.1) then
      if 0 ≤ x.2.2.2.2.2.2.1 then (
      if x.2.2.2.2.2.2.1 < ((x.2.1 : Nat) : Int) then (
      if (x.2.2.2.2.2.2.1.toNat) < x.2.2.2.2.2.2.2.2.2.1 then (
      if 0 ≤ (IntKind.i64.wrap (x.2.2.2.2.2.2.1 - (1:Int))) then (
      if (IntKind.i64.wrap (x.2.2.2.2.2.2.1 - (1:Int))) < ((x.2.1 : Nat) : Int) then (
      if ((IntKind.i64.wrap (x.2.2.2.2.2.2.1 - (1:Int))).toNat) < x.2.2.2.2.2.2.2.2.2.1 then (
      if ((List.getD x.2.2.2.2.2.2.2.2.2.2.1 (x.2.2.2.2.2.2.1.toNat) 0) ≤ (List.getD x.2.2.2.2.2.2.2.2.2.2.1 ((IntKind.i64.wrap (x.2.2.2.2.2.2.1 - (1:Int))).toNat) 0)) then
        ke (.inl ((150:Int), ()))
      else
        if 0 ≤ x.2.2.2.2.2.2.1 then (
        if x.2.2.2.2.2.2.1 < ((x.2.1 : Nat) : Int) then (
        if (x.2.2.2.2.2.2.1.toNat) < x.2.2.2.2.2.2.2.2.2.1 then (
        if 0 ≤ x.2.2.2.2.1 then (
        if x.2.2.2.2.1 < ((x.2.2.1 : Nat) : Int) then (
        if 0 ≤ (List.getD x.2.2.2.2.2.2.2.2.2.2.1 (x.2.2.2.2.2.2.1.toNat) 0) then (
        if (List.getD x.2.2.2.2.2.2.2.2.2.2.1 (x.2.2.2.2.2.2.1.toNat) 0) < 256 then (
        if (((x.2.2.2.2.1.toNat) * 256) + ((List.getD x.2.2.2.2.2.2.2.2.2.2.1 (x.2.2.2.2.2.2.1.toNat) 0).toNat)) < x.2.2.2.2.2.2.2.2.2.2.2.1 then (
        kn (x.1, x.2.1, x.2.2.1, x.2.2.2.1, x.2.2.2.2.1, x.2.2.2.2.2.1, (IntKind.i64.wrap (x.2.2.2.2.2.2.1 + (1:Int))), x.2.2.2.2.2.2.2.1, x.2.2.2.2.2.2.2.2.1, x.2.2.2.2.2.2.2.2.2.1, x.2.2.2.2.2.2.2.2.2.2.1, x.2.2.2.2.2.2.2.2.2.2.2.1, (List.set x.2.2.2.2.2.2.2.2.2.2.2.2.1 (((x.2.2.2.2.1.toNat) * 256) + ((List.getD x.2.2.2.2.2.2.2.2.2.2.1 (x.2.2.2.2.2.2.1.toNat) 0).toNat)) (1:Int)), ())) else none) else none) else none) else none) else none) else none) else none) else none) else none) else none) else none) else none) else none) else none
    else
      if 0 ≤ x.2.2.2.2.2.2.1 then (
      if x.2.2.2.2.2.2.1 < ((x.2.1 : Nat) : Int) then (
      if (x.2.2.2.2.2.2.1.toNat) < x.2.2.2.2.2.2.2.2.2.1 then (
      if 0 ≤ x.2.2.2.2.1 then (
      if x.2.2.2.2.1 < ((x.2.2.1 : Nat) : Int) then (
      if 0 ≤ (List.getD x.2.2.2.2.2.2.2.2.2.2.1 (x.2.2.2.2.2.2.1.toNat) 0) then (
      if (List.getD x.2.2.2.2.2.2.2.2.2.2.1 (x.2.2.2.2.2.2.1.toNat) 0) < 256 then (
      if (((x.2.2.2.2.1.toNat) * 256) + ((List.getD x.2.2.2.2.2.2.2.2.2.2.1 (x.2.2.2.2.2.2.1.toNat) 0).toNat)) < x.2.2.2.2.2.2.2.2.2.2.2.1 then (
      kn (x.1, x.2.1, x.2.2.1, x.2.2.2.1, x.2.2.2.2.1, x.2.2.2.2.2.1, (IntKind.i64.wrap (x.2.2.2.2.2.2.1 + (1:Int))), x.2.2.2.2.2.2.2.1, x.2.2.2.2.2.2.2.2.1, x.2.2.2.2.2.2.2.2.2.1, x.2.2.2.2.2.2.2.2.2.2.1, x.2.2.2.2.2.2.2.2.2.2.2.1, (List.set x.2.2.2.2.2.2.2.2.2.2.2.2.1 (((x.2.2.2.2.1.toNat) * 256) + ((List.getD x.2.2.2.2.2.2.2.2.2.2.1 (x.2.2.2.2.2.2.1.toNat) 0).toNat)) (1:Int)), ())) else none) else none) else none) else none) else none) else none) else none) else none
  else
    ke (.inr (x.1, x.2.1, x.2.2.1, x.2.2.2.2.2.1, x.2.2.2.2.2.2.2.1, x.2.2.2.2.2.2.2.2.1, x.2.2.2.2.2.2.2.2.2.1, x.2.2.2.2.2.2.2.2.2.2.1, x.2.2.2.2.2.2.2.2.2.2.2.1, x.2.2.2.2.2.2.2.2.2.2.2.2.1, ()))
noncomputable def p_dring_UnpackHints_l12_go : Go' ((Int × Unit) ⊕ (Int × Nat × Nat × Int × Int × Int × Nat × List Int × Nat × List Int × Unit)) := fun y K => match y with
  | .inl y => K .ret { tmps := [.one .any, .one .any, .one .any, .one .any, .one .any, .one .any, .one (.sc (.nilsl)), .one (.sc (.int .i64 y.1)), .one .any, .one .any, .one .any, .one .any, .one .any, .one .any, .one .any, .one .any, .one .any, .one .any, .one .any, .one .any, .one .any, .one .any, .one .any, .one .any, .one .any, .one .any, .one .any, .one .any, .one .any, .one .any, .one .any, .one .any, .one .any, .one .any, .one .any, .one .any, .one .any, .one .any, .one .any, .one .any, .one .any, .one .any, .one .any, .one .any, .one .any, .one .any, .one .any, .one .any, .one .any, .one .any, .one .any, .one .any, .one .any, .one .any, .one .any, .one .any, .one .any, .one .any, .one .any, .one .any, .one .any, .one .any, .one .any, .one .any, .one .any, .one .any, .one .any, .one .any, .one .any, .one .any, .one .any, .one .any, .one .any, .one .any, .one .any, .one .any, .one .any, .one .any, .one .any, .one .any, .one .any, .one .any, .one .any, .one .any, .one .any, .one .any, .one .any, .one .any, .one .any, .one .any, .one .any, .one .any, .one .any, .one .any, .one .any, .one .any, .one .any, .one .any, .one .any, .one .any, .one .any, .one .any, .one .any], mem := [] }
  | .inr y => K (.exit 2) { tmps := [.one .any, .one (.sc (.int .i64 y.1)), .one (.sc (.vec 0 y.2.1 1)), .one .any, .one .any, .one .any, .one .any, .one .any, .one (.sc (.vec 1 y.2.2.1 256)), .one .any, .one .any, .one (.sc (.int .i64 y.2.2.2.1)), .one .any, .one .any, .one .any, .one .any, .one .any, .one .any, .one .any, .one .any, .one .any, .one .any, .one .any, .one .any, .one .any, .one .any, .one .any, .one .any, .one .any, .one .any, .one .any, .one .any, .one .any, .one .any, .one .any, .one .any, .one .any, .one .any, .one .any, .one .any, .one (.sc (.int .i64 y.2.2.2.2.1)), .one (.sc (.int .i64 y.2.2.2.2.2.1)), .one .any, .one .any, .one .any, .one .any, .one .any, .one .any, .one .any, .one .any, .one .any, .one .any, .one .any, .one .any, .one .any, .one .any, .one .any, .one .any, .one .any, .one .any, .one .any, .one .any, .one .any, .one .any, .one .any, .one .any, .one .any, .one .any, .one .any, .one .any, .one .any, .one .any, .one .any, .one .any, .one .any, .one .any, .one .any, .one .any, .one .any, .one .any, .one .any, .one .any, .one .any, .one .any, .one .any, .one .any, .one .any, .one .any, .one .any, .one .any, .one .any, .one .any, .one .any, .one .any, .one .any, .one .any, .one .any, .one .any, .one .any, .one .any, .one .any, .one .any, .one .any], mem := [.live { segs := [.xs (.int .u8) y.2.2.2.2.2.2.1 y.2.2.2.2.2.2.2.1], own := .ro }, .live { segs := [.xs .bool y.2.2.2.2.2.2.2.2.1 y.2.2.2.2.2.2.2.2.2.1], own := .own }] }
noncomputable def p_dring_UnpackHints_l12_L (N : Nat) : LT := upd (LT.nil) 12 (loopE p_dring_UnpackHints_l12_S N (p_dring_UnpackHints_l12_F N) p_dring_UnpackHints_l12_go)
theorem p_dring_UnpackHints_l12_ok (N : Nat) : OkAll p_dring_UnpackHints_E p_dring_UnpackHints_H N (p_dring_UnpackHints_l12_L N) (subs p_dring_UnpackHints_c) :=
  addLoop (c := theLoop 12 p_dring_UnpackHints_c) (OkAll.nil) (by kernel_rfl) (fun x => by kernel_rfl) (fun β x kn ke => by kernel_rfl)
noncomputable def p_dring_UnpackHints_l6_S : Shape where
  h := { tmps := [.any, .sc (.int .i64), .sc (.vec 0 none 1), .any, .any, .any, .any, .any, .sc (.vec 1 none 256), .sc (.int .i64), .any, .any, .any, .any, .any, .any, .any, .any, .any, .any, .any, .any, .any, .any, .any, .any, .any, .any, .any, .any, .any, .any, .any, .any, .any, .any, .any, .any, .any, .any, .sc (.int .i64), .sc (.int .i64), .any, .any, .any, .any, .any, .any, .any, .any, .any, .any, .any, .any, .any, .any, .any, .any, .any, .any, .any, .any, .any, .any, .any, .any, .any, .any, .any, .any, .any, .any, .any, .any, .any, .any, .any, .any, .any, .any, .any, .any, .any, .any, .any, .any, .any, .any, .any, .any, .any, .any, .any, .any, .any, .any, .any, .any, .any, .any, .any, .any, .any], mem := [.live [.xs (.int .u8) none] (.ro), .live [.xs .bool none] (.own)] }
  ks := [.int, .nat, .nat, .int, .int, .int, .nat, .xs, .nat, .xs]
  st := fun x => { tmps := [.one .any, .one (.sc (.int .i64 x.1)), .one (.sc (.vec 0 x.2.1 1)), .one .any, .one .any, .one .any, .one .any, .one .any, .one (.sc (.vec 1 x.2.2.1 256)), .one (.sc (.int .i64 x.2.2.2.1)), .one .any, .one .any, .one .any, .one .any, .one .any, .one .any, .one .any, .one .any, .one .any, .one .any, .one .any, .one .any, .one .any, .one .any, .one .any, .one .any, .one .any, .one .any, .one .any, .one .any, .one .any, .one .any, .one .any, .one .any, .one .any, .one .any, .one .any, .one .any, .one .any, .one .any, .one (.sc (.int .i64 x.2.2.2.2.1)), .one (.sc (.int .i64 x.2.2.2.2.2.1)), .one .any, .one .any, .one .any, .one .any, .one .any, .one .any, .one .any, .one .any, .one .any, .one .any, .one .any, .one .any, .one .any, .one .any, .one .any, .one .any, .one .any, .one .any, .one .any, .one .any, .one .any, .one .any, .one .any, .one .any, .one .any, .one .any, .one .any, .one .any, .one .any, .one .any, .one .any, .one .any, .one .any, .one .any, .one .any, .one .any, .one .any, .one .any, .one .any, .one .any, .one .any, .one .any, .one .any, .one .any, .one .any, .one .any, .one .any, .one .any, .one .any, .one .any, .one .any, .one .any, .one .any, .one .any, .one .any, .one .any, .one .any, .one .any, .one .any, .one .any, .one .any], mem := [.live { segs := [.xs (.int .u8) x.2.2.2.2.2.2.1 x.2.2.2.2.2.2.2.1], own := .ro }, .live { segs := [.xs .bool x.2.2.2.2.2.2.2.2.1 x.2.2.2.2.2.2.2.2.2.1], own := .own }] }
noncomputable def p_dring_UnpackHints_l6_F (N : Nat) (β : Type) (x : (Int × Nat × Nat × Int × Int × Int × Nat × List Int × Nat × List Int × Unit)) (kn : (Int × Nat × Nat × Int × Int × Int × Nat × List Int × Nat × List Int × Unit) → Option β) (ke : ((Int × Unit) ⊕ (Int × Nat × Nat × Int × Nat × List Int × Nat × List Int × Unit)) → Option β) : Option β :=
  if (x.2.2.2.2.2.1 < x.2.2.2.2.1) then
    if 0 ≤ (IntKind.i64.wrap (x.1 + x.2.2.2.2.2.1)) then (
    if (IntKind.i64.wrap (x.1 + x.2.2.2.2.2.1)) < ((x.2.1 : Nat) : Int) then (
    if ((IntKind.i64.wrap (x.1 + x.2.2.2.2.2.1)).toNat) < x.2.2.2.2.2.2.1 then (
    if ((IntKind.i64.wrap (List.getD x.2.2.2.2.2.2.2.1 ((IntKind.i64.wrap (x.1 + x.2.2.2.2.2.1)).toNat) 0)) < x.2.2.2.1) then
      ke (.inl ((150:Int), ()))
    else
      if ((IntKind.i64.wrap (List.getD x.2.2.2.2.2.2.2.1 ((IntKind.i64.wrap (x.1 + x.2.2.2.2.2.1)).toNat) 0)) > x.1) then
        ke (.inl ((150:Int), ()))
      else
        iter (p_dring_UnpackHints_l12_F N) N (x.1, x.2.1, x.2.2.1, x.2.2.2.1, x.2.2.2.2.2.1, (IntKind.i64.wrap (List.getD x.2.2.2.2.2.2.2.1 ((IntKind.i64.wrap (x.1 + x.2.2.2.2.2.1)).toNat) 0)), x.2.2.2.1, x.2.2.2.2.1, x.2.2.2.2.2.1, x.2.2.2.2.2.2.1, x.2.2.2.2.2.2.2.1, x.2.2.2.2.2.2.2.2.1, x.2.2.2.2.2.2.2.2.2.1, ()) fun y => (match y with
        | .inl y1 => (
          ke (.inl (y1.1, ())))
        | .inr y2 => (
          kn (y2.1, y2.2.1, y2.2.2.1, y2.2.2.2.1, y2.2.2.2.2.1, (IntKind.i64.wrap (y2.2.2.2.2.2.1 + (1:Int))), y2.2.2.2.2.2.2.1, y2.2.2.2.2.2.2.2.1, y2.2.2.2.2.2.2.2.2.1, y2.2.2.2.2.2.2.2.2.2.1, ())))) else none) else none) else none
  else
    ke (.inr (x.1, x.2.1, x.2.2.1, x.2.2.2.1, x.2.2.2.2.2.2.1, x.2.2.2.2.2.2.2.1, x.2.2.2.2.2.2.2.2.1, x.2.2.2.2.2.2.2.2.2.1, ()))
noncomputable def p_dring_UnpackHints_l6_go : Go' ((Int × Unit) ⊕ (Int × Nat × Nat × Int × Nat × List Int × Nat × List Int × Unit)) := fun y K => match y with
  | .inl y => K .ret { tmps := [.one .any, .one .any, .one .any, .one .any, .one .any, .one .any, .one (.sc (.nilsl)), .one (.sc (.int .i64 y.1)), .one .any, .one .any, .one .any, .one .any, .one .any, .one .any, .one .any, .one .any, .one .any, .one .any, .one .any, .one .any, .one .any, .one .any, .one .any, .one .any, .one .any, .one .any, .one .any, .one .any, .one .any, .one .any, .one .any, .one .any, .one .any, .one .any, .one .any, .one .any, .one .any, .one .any, .one .any, .one .any, .one .any, .one .any, .one .any, .one .any, .one .any, .one .any, .one .any, .one .any, .one .any, .one .any, .one .any, .one .any, .one .any, .one .any, .one .any, .one .any, .one .any, .one .any, .one .any, .one .any, .one .any, .one .any, .one .any, .one .any, .one .any, .one .any, .one .any, .one .any, .one .any, .one .any, .one .any, .one .any, .one .any, .one .any, .one .any, .one .any, .one .any, .one .any, .one .any, .one .any, .one .any, .one .any, .one .any, .one .any, .one .any, .one .any, .one .any, .one .any, .one .any, .one .any, .one .any, .one .any, .one .any, .one .any, .one .any, .one .any, .one .any, .one .any, .one .any, .one .any, .one .any, .one .any, .one .any], mem := [] }
  | .inr y => K (.exit 0) { tmps := [.one .any, .one (.sc (.int .i64 y.1)), .one (.sc (.vec 0 y.2.1 1)), .one .any, .one .any, .one .any, .one .any, .one .any, .one (.sc (.vec 1 y.2.2.1 256)), .one (.sc (.int .i64 y.2.2.2.1)), .one .any, .one .any, .one .any, .one .any, .one .any, .one .any, .one .any, .one .any, .one .any, .one .any, .one .any, .one .any, .one .any, .one .any, .one .any, .one .any, .one .any, .one .any, .one .any, .one .any, .one .any, .one .any, .one .any, .one .any, .one .any, .one .any, .one .any, .one .any, .one .any, .one .any, .one .any, .one .any, .one .any, .one .any, .one .any, .one .any, .one .any, .one .any, .one .any, .one .any, .one .any, .one .any, .one .any, .one .any, .one .any, .one .any, .one .any, .one .any, .one .any, .one .any, .one .any, .one .any, .one .any, .one .any, .one .any, .one .any, .one .any, .one .any, .one .any, .one .any, .one .any, .one .any, .one .any, .one .any, .one .any, .one .any, .one .any, .one .any, .one .any, .one .any, .one .any, .one .any, .one .any, .one .any, .one .any, .one .any, .one .any, .one .any, .one .any, .one .any, .one .any, .one .any, .one .any, .one .any, .one .any, .one .any, .one .any, .one .any, .one .any, .one .any, .one .any, .one .any, .one .any], mem := [.live { segs := [.xs (.int .u8) y.2.2.2.2.1 y.2.2.2.2.2.1], own := .ro }, .live { segs := [.xs .bool y.2.2.2.2.2.2.1 y.2.2.2.2.2.2.2.1], own := .own }] }
noncomputable def p_dring_UnpackHints_l6_L (N : Nat) : LT := upd (p_dring_UnpackHints_l12_L N) 6 (loopE p_dring_UnpackHints_l6_S N (p_dring_UnpackHints_l6_F N) p_dring_UnpackHints_l6_go)
theorem p_dring_UnpackHints_l6_ok (N : Nat) : OkAll p_dring_UnpackHints_E p_dring_UnpackHints_H N (p_dring_UnpackHints_l6_L N) (subs p_dring_UnpackHints_c) :=
  addLoop (c := theLoop 6 p_dring_UnpackHints_c) (p_dring_UnpackHints_l12_ok N) (by kernel_rfl) (fun x => by kernel_rfl) (fun β x kn ke => by kernel_rfl)
noncomputable def p_dring_UnpackHints_l20_S : Shape where
  h := { tmps := [.any, .any, .any, .any, .any, .any, .any, .any, .sc (.vec 0 none 256), .any, .any, .any, .any, .any, .any, .any, .any, .any, .any, .any, .any, .any, .any, .any, .any, .any, .any, .any, .any, .any, .any, .any, .any, .any, .any, .any, .any, .any, .any, .any, .any, .any, .any, .any, .any, .any, .any, .any, .any, .any, .any, .any, .any, .any, .any, .any, .any, .any, .any, .any, .any, .any, .any, .any, .any, .any, .any, .any, .any, .any, .any, .any, .any, .any, .any, .any, .any, .any, .any, .any, .any, .any, .any, .any, .any, .any, .any, .any, .any, .any, .any, .any, .any, .sc (.sl 1 none none none 1), .sc (.int .i64), .sc (.int .i64), .any, .any, .any, .any, .any, .any, .any], mem := [.live [.xs .bool none] (.own), .live [.xs (.int .u8) none] (.ro)] }
  ks := [.nat, .nat, .nat, .nat, .int, .int, .nat, .xs, .nat, .xs]
  st := fun x => { tmps := [.one .any, .one .any, .one .any, .one .any, .one .any, .one .any, .one .any, .one .any, .one (.sc (.vec 0 x.1 256)), .one .any, .one .any, .one .any, .one .any, .one .any, .one .any, .one .any, .one .any, .one .any, .one .any, .one .any, .one .any, .one .any, .one .any, .one .any, .one .any, .one .any, .one .any, .one .any, .one .any, .one .any, .one .any, .one .any, .one .any, .one .any, .one .any, .one .any, .one .any, .one .any, .one .any, .one .any, .one .any, .one .any, .one .any, .one .any, .one .any, .one .any, .one .any, .one .any, .one .any, .one .any, .one .any, .one .any, .one .any, .one .any, .one .any, .one .any, .one .any, .one .any, .one .any, .one .any, .one .any, .one .any, .one .any, .one .any, .one .any, .one .any, .one .any, .one .any, .one .any, .one .any, .one .any, .one .any, .one .any, .one .any, .one .any, .one .any, .one .any, .one .any, .one .any, .one .any, .one .any, .one .any, .one .any, .one .any, .one .any, .one .any, .one .any, .one .any, .one .any, .one .any, .one .any, .one .any, .one .any, .one (.sc (.sl 1 x.2.1 x.2.2.1 x.2.2.2.1 1)), .one (.sc (.int .i64 x.2.2.2.2.1)), .one (.sc (.int .i64 x.2.2.2.2.2.1)), .one .any, .one .any, .one .any, .one .any, .one .any, .one .any, .one .any], mem := [.live { segs := [.xs .bool x.2.2.2.2.2.2.1 x.2.2.2.2.2.2.2.1], own := .own }, .live { segs := [.xs (.int .u8) x.2.2.2.2.2.2.2.2.1 x.2.2.2.2.2.2.2.2.2.1], own := .ro }] }
noncomputable def p_dring_UnpackHints_l20_F (N : Nat) (β : Type) (x : (Nat × Nat × Nat × Nat × Int × Int × Nat × List Int × Nat × List Int × Unit)) (kn : (Nat × Nat × Nat × Nat × Int × Int × Nat × List Int × Nat × List Int × Unit) → Option β) (ke : ((Int × Unit) ⊕ (Nat × Nat × List Int × Unit)) → Option β) : Option β :=
  if (x.2.2.2.2.2.1 < x.2.2.2.2.1) then
    if 0 ≤ x.2.2.2.2.2.1 then (
    if x.2.2.2.2.2.1 < ((x.2.2.1 : Nat) : Int) then (
    if (addN x.2.1 (x.2.2.2.2.2.1.toNat)) < x.2.2.2.2.2.2.2.2.1 then (
    if ((List.getD x.2.2.2.2.2.2.2.2.2.1 (addN x.2.1 (x.2.2.2.2.2.1.toNat)) 0) ≠ (0:Int)) then
      ke (.inl ((150:Int), ()))
    else
      kn (x.1, x.2.1, x.2.2.1, x.2.2.2.1, x.2.2.2.2.1, (IntKind.i64.wrap (x.2.2.2.2.2.1 + (1:Int))), x.2.2.2.2.2.2.1, x.2.2.2.2.2.2.2.1, x.2.2.2.2.2.2.2.2.1, x.2.2.2.2.2.2.2.2.2.1, ())) else none) else none) else none
  else
    ke (.inr (x.1, x.2.2.2.2.2.2.1, x.2.2.2.2.2.2.2.1, ()))
noncomputable def p_dring_UnpackHints_l20_go : Go' ((Int × Unit) ⊕ (Nat × Nat × List Int × Unit)) := fun y K => match y with
  | .inl y => K .ret { tmps := [.one .any, .one .any, .one .any, .one .any, .one .any, .one .any, .one (.sc (.nilsl)), .one (.sc (.int .i64 y.1)), .one .any, .one .any, .one .any, .one .any, .one .any, .one .any, .one .any, .one .any, .one .any, .one .any, .one .any, .one .any, .one .any, .one .any, .one .any, .one .any, .one .any, .one .any, .one .any, .one .any, .one .any, .one .any, .one .any, .one .any, .one .any, .one .any, .one .any, .one .any, .one .any, .one .any, .one .any, .one .any, .one .any, .one .any, .one .any, .one .any, .one .any, .one .any, .one .any, .one .any, .one .any, .one .any, .one .any, .one .any, .one .any, .one .any, .one .any, .one .any, .one .any, .one .any, .one .any, .one .any, .one .any, .one .any, .one .any, .one .any, .one .any, .one .any, .one .any, .one .any, .one .any, .one .any, .one .any, .one .any, .one .any, .one .any, .one .any, .one .any, .one .any, .one .any, .one .any, .one .any, .one .any, .one .any, .one .any, .one .any, .one .any, .one .any, .one .any, .one .any, .one .any, .one .any, .one .any, .one .any, .one .any, .one .any, .one .any, .one .any, .one .any, .one .any, .one .any, .one .any, .one .any, .one .any, .one .any], mem := [] }
  | .inr y => K (.exit 4) { tmps := [.one .any, .one .any, .one .any, .one .any, .one .any, .one .any, .one .any, .one .any, .one (.sc (.vec 0 y.1 256)), .one .any, .one .any, .one .any, .one .any, .one .any, .one .any, .one .any, .one .any, .one .any, .one .any, .one .any, .one .any, .one .any, .one .any, .one .any, .one .any, .one .any, .one .any, .one .any, .one .any, .one .any, .one .any, .one .any, .one .any, .one .any, .one .any, .one .any, .one .any, .one .any, .one .any, .one .any, .one .any, .one .any, .one .any, .one .any, .one .any, .one .any, .one .any, .one .any, .one .any, .one .any, .one .any, .one .any, .one .any, .one .any, .one .any, .one .any, .one .any, .one .any, .one .any, .one .any, .one .any, .one .any, .one .any, .one .any, .one .any, .one .any, .one .any, .one .any, .one .any, .one .any, .one .any, .one .any, .one .any, .one .any, .one .any, .one .any, .one .any, .one .any, .one .any, .one .any, .one .any, .one .any, .one .any, .one .any, .one .any, .one .any, .one .any, .one .any, .one .any, .one .any, .one .any, .one .any, .one .any, .one .any, .one .any, .one .any, .one .any, .one .any, .one .any, .one .any, .one .any, .one .any, .one .any], mem := [.live { segs := [.xs .bool y.2.1 y.2.2.1], own := .own }] }
noncomputable def p_dring_UnpackHints_l20_L (N : Nat) : LT := upd (p_dring_UnpackHints_l6_L N) 20 (loopE p_dring_UnpackHints_l20_S N (p_dring_UnpackHints_l20_F N) p_dring_UnpackHints_l20_go)
theorem p_dring_UnpackHints_l20_ok (N : Nat) : OkAll p_dring_UnpackHints_E p_dring_UnpackHints_H N (p_dring_UnpackHints_l20_L N) (subs p_dring_UnpackHints_c) :=
  addLoop (c := theLoop 20 p_dring_UnpackHints_c) (p_dring_UnpackHints_l6_ok N) (by kernel_rfl) (fun x => by kernel_rfl) (fun β x kn ke => by kernel_rfl)
abbrev p_dring_UnpackHints_ks : List Kd := [.int .i64, .int .i64, .sl (.int .u8)]
abbrev p_dring_UnpackHints_rs : List Kd := [.sla .bool 256, .int .i64]
noncomputable def p_dring_UnpackHints (N : Nat) (x : Int × Int × List Int × Unit) : Option (List Int × Int) :=
  if (x.1 < (0:Int)) then
    some ([], (1:Int))
  else
    if (x.1 > (16:Int)) then
      some ([], (1:Int))
    else
      if (x.2.1 < (0:Int)) then
        some ([], (1:Int))
      else
        if (x.2.1 > (255:Int)) then
          some ([], (1:Int))
        else
          if ((((List.length x.2.2.1) : Nat) : Int) ≠ (IntKind.i64.wrap (x.2.1 + x.1))) then
            some ([], (1:Int))
          else
            if 0 ≤ x.1 then (
            if x.1 = x.1 then (
            if x.1 * 256 ≤ 281474976710656 then (
            iter (p_dring_UnpackHints_l6_F N) N (x.2.1, (List.length x.2.2.1), (x.1.toNat), (0:Int), (((x.1.toNat) : Nat) : Int), (0:Int), (List.length x.2.2.1), x.2.2.1, ((x.1.toNat) * 256), (List.replicate ((x.1.toNat) * 256) 0), ()) fun y => (match y with
            | .inl y3 => (
              some ([], y3.1))
            | .inr y4 => (
              if 0 ≤ y4.1 then (
              if y4.1 ≤ ((y4.2.1 : Nat) : Int) then (
              if 0 ≤ y4.2.2.2.1 then (
              if y4.2.2.2.1 ≤ (((y4.1.toNat) : Nat) : Int) then (
              iter (p_dring_UnpackHints_l20_F N) N (y4.2.2.1, (y4.2.2.2.1.toNat), (subN (y4.1.toNat) (y4.2.2.2.1.toNat)), (subN y4.2.1 (y4.2.2.2.1.toNat)), (((subN (y4.1.toNat) (y4.2.2.2.1.toNat)) : Nat) : Int), (0:Int), y4.2.2.2.2.2.2.1, y4.2.2.2.2.2.2.2.1, y4.2.2.2.2.1, y4.2.2.2.2.2.1, ()) fun y => (match y with
              | .inl y5 => (
                some ([], y5.1))
              | .inr y6 => (
                some (y6.2.2.1, (0:Int))))) else none) else none) else none) else none))) else none) else none) else none
theorem p_dring_UnpackHints_eq (N : Nat) (x : Ds [.int .i64, .int .i64, .sl (.int .u8)]) : funL p_dring_UnpackHints_E p_dring_UnpackHints_H (p_dring_UnpackHints_l20_L N) N Go.Proofs.Try.f27 p_dring_UnpackHints_c [.int .i64, .int .i64, .sl (.int .u8)] [.sla .bool 256, .int .i64] x = p_dring_UnpackHints N x := by kernel_rfl
theorem p_dring_UnpackHints_Eok : p_dring_UnpackHints_E.Ok Go.Proofs.Try.prog := AE.of_ok (all_cons ty3_ok (all_cons ty4_ok (all_cons ty5_ok (all_cons ty31_ok (all_cons ty38_ok (all_cons ty39_ok all_nil)))))) all_nil
theorem p_dring_UnpackHints_ok {g : Ds [.int .i64, .int .i64, .sl (.int .u8)] → Option (Rs [.sla .bool 256, .int .i64])} (hg : ∀ x r, g x = some r → ∃ N, p_dring_UnpackHints N x = some r) : SigOk Go.Proofs.Try.prog 27 ⟨[.int .i64, .int .i64, .sl (.int .u8)], [.sla .bool 256, .int .i64], g⟩ :=
  fun_of (E := p_dring_UnpackHints_E) (H := p_dring_UnpackHints_H) (L := fun N => p_dring_UnpackHints_l20_L N) (c := p_dring_UnpackHints_c) (ks := p_dring_UnpackHints_ks) (rs := p_dring_UnpackHints_rs) (F := p_dring_UnpackHints) (p_dring_UnpackHints_Eok) mix Go.Proofs.Try.func27 (by kernel_rfl) (fun N => p_dring_UnpackHints_l20_ok N) p_dring_UnpackHints_eq hg

/-! livery/liveryref15.UnpackHints -/
noncomputable def p_ref15_UnpackHints_E : AE := AE.of [(3, ty3), (4, ty4), (5, ty5), (31, ty31), (38, ty38), (39, ty39)] [(26, ⟨[.sla .bool 256, .int .i64], [.sl (.int .u8), .int .i64], g_ref15_PackHints⟩), (29, ⟨[.sl (.int .u8), .sl (.int .u8)], [.bool], g_ref01_Equal⟩)]
noncomputable def p_ref15_UnpackHints_H : Hints := [(6, [1, 2, 8, 9, 38, 39]), (11, [1, 2, 8, 9, 10, 11, 38, 39]), (2000000, [1, 2, 8]), (2000001, [1, 2, 8, 9, 38, 39]), (2000002, [1, 2, 8, 9, 38, 39]), (2000003, [1, 2, 8, 9, 10, 11, 38, 39]), (3000000, [6, 7])]
noncomputable def p_ref15_UnpackHints_c : Code := (Go.Proofs.Try.f28).body.getD .skip
noncomputable def p_ref15_UnpackHints_l11_S : Shape where
  h := { tmps := [.any, .sc (.int .i64), .sc (.vec 0 none 1), .any, .any, .any, .any, .any, .sc (.vec 1 none 256), .sc (.int .i64), .sc (.int .i64), .sc (.int .i64), .any, .any, .any, .any, .any, .any, .any, .any, .any, .any, .any, .any, .any, .any, .any, .any, .any, .any, .any, .any, .any, .any, .any, .any, .any, .any, .sc (.int .i64), .sc (.int .i64), .any, .any, .any, .any, .any, .any, .any, .any, .any, .any, .any, .any, .any, .any, .any, .any, .any, .any, .any, .any, .any, .any, .any, .any, .any, .any, .any, .any, .any, .any, .any, .any, .any, .any, .any, .any, .any, .any, .any, .any, .any, .any, .any, .any, .any, .any], mem := [.live [.xs (.int .u8) none] (.ro), .live [.xs .bool none] (.own)] }
  ks := [.int, .nat, .nat, .int, .int, .int, .int, .int, .nat, .xs, .nat, .xs]
  st := fun x => { tmps := [.one .any, .one (.sc (.int .i64 x.1)), .one (.sc (.vec 0 x.2.1 1)), .one .any, .one .any, .one .any, .one .any, .one .any, .one (.sc (.vec 1 x.2.2.1 256)), .one (.sc (.int .i64 x.2.2.2.1)), .one (.sc (.int .i64 x.2.2.2.2.1)), .one (.sc (.int .i64 x.2.2.2.2.2.1)), .one .any, .one .any, .one .any, .one .any, .one .any, .one .any, .one .any, .one .any, .one .any, .one .any, .one .any, .one .any, .one .any, .one .any, .one .any, .one .any, .one .any, .one .any, .one .any, .one .any, .one .any, .one .any, .one .any, .one .any, .one .any, .one .any, .one (.sc (.int .i64 x.2.2.2.2.2.2.1)), .one (.sc (.int .i64 x.2.2.2.2.2.2.2.1)), .one .any, .one .any, .one .any, .one .any, .one .any, .one .any, .one .any, .one .any, .one .any, .one .any, .one .any, .one .any, .one .any, .one .any, .one .any, .one .any, .one .any, .one .any, .one .any, .one .any, .one .any, .one .any, .one .any, .one .any, .one .any, .one .any, .one .any, .one .any, .one .any, .one .any, .one .any, .one .any, .one .any, .one .any, .one .any, .one .any, .one .any, .one .any, .one .any, .one .any, .one .any, .one .any, .one .any, .one .any, .one .any, .one .any], mem := [.live { segs := [.xs (.int .u8) x.2.2.2.2.2.2.2.2.1 x.2.2.2.2.2.2.2.2.2.1], own := .ro }, .live { segs := [.xs .bool x.2.2.2.2.2.2.2.2.2.2.1 x.2.2.2.2.2.2.2.2.2.2.2.1], own := .own }] }
noncomputable def p_ref15_UnpackHints_l11_F (N : Nat) (β : Type) (x : (Int × Nat × Nat × Int × Int × Int × Int × Int × Nat × List Int × Nat × List Int × Unit)) (kn : (Int × Nat × Nat × Int × Int × Int × Int × Int × Nat × List Int × Nat × List Int × Unit) → Option β) (ke : ((Int × Nat × Nat × Int × Int × Int × Nat × List Int × Nat × List Int × Unit)) → Option β) : Option β :=
  if (x.2.2.2.1 < x.2.2.2.2.2.1) then
    if 0 ≤ x.2.2.2.1 then (
    if x.2.2.2.1 < ((x.2.1 : Nat) : Int) then (
    if (x.2.2.2.1.toNat) < x.2.2.2.2.2.2.2.2.1 then (
    if 0 ≤ x.2.2.2.2.1 then (
    if x.2.2.2.2.1 < ((x.2.2.1 : Nat) : Int) then (
    if 0 ≤ (List.getD x.2.2.2.2.2.2.2.2.2.1 (x.2.2.2.1.toNat) 0) then (
    if (List.getD x.2.2.2.2.2.2.2.2.2.1 (x.2.2.2.1.toNat) 0) < 256 then (
    if (((x.2.2.2.2.1.toNat) * 256) + ((List.getD x.2.2.2.2.2.2.2.2.2.1 (x.2.2.2.1.toNat) 0).toNat)) < x.2.2.2.2.2.2.2.2.2.2.1 then (
    kn (x.1, x.2.1, x.2.2.1, (IntKind.i64.wrap (x.2.2.2.1 + (1:Int))), x.2.2.2.2.1, x.2.2.2.2.2.1, x.2.2.2.2.2.2.1, x.2.2.2.2.2.2.2.1, x.2.2.2.2.2.2.2.2.1, x.2.2.2.2.2.2.2.2.2.1, x.2.2.2.2.2.2.2.2.2.2.1, (List.set x.2.2.2.2.2.2.2.2.2.2.2.1 (((x.2.2.2.2.1.toNat) * 256) + ((List.getD x.2.2.2.2.2.2.2.2.2.1 (x.2.2.2.1.toNat) 0).toNat)) (1:Int)), ())) else none) else none) else none) else none) else none) else none) else none) else none
  else
    ke (x.1, x.2.1, x.2.2.1, x.2.2.2.1, x.2.2.2.2.2.2.1, x.2.2.2.2.2.2.2.1, x.2.2.2.2.2.2.2.2.1, x.2.2.2.2.2.2.2.2.2.1, x.2.2.2.2.2.2.2.2.2.2.1, x.2.2.2.2.2.2.2.2.2.2.2.1, ())
noncomputable def p_ref15_UnpackHints_l11_go : Go' ((Int × Nat × Nat × Int × Int × Int × Nat × List Int × Nat × List Int × Unit)) := fun y K => K (.exit 2) { tmps := [.one .any, .one (.sc (.int .i64 y.1)), .one (.sc (.vec 0 y.2.1 1)), .one .any, .one .any, .one .any, .one .any, .one .any, .one (.sc (.vec 1 y.2.2.1 256)), .one (.sc (.int .i64 y.2.2.2.1)), .one .any, .one .any, .one .any, .one .any, .one .any, .one .any, .one .any, .one .any, .one .any, .one .any, .one .any, .one .any, .one .any, .one .any, .one .any, .one .any, .one .any, .one .any, .one .any, .one .any, .one .any, .one .any, .one .any, .one .any, .one .any, .one .any, .one .any, .one .any, .one (.sc (.int .i64 y.2.2.2.2.1)), .one (.sc (.int .i64 y.2.2.2.2.2.1)), .one .any, .one .any, .one .any, .one .any, .one .any, .one .any, .one .any, .one .any, .one .any, .one .any, .one .any, .one .any, .one .any, .one .any, .one .any, .one .any, .one .any, .one .any, .one .any, .one .any, .one .any, .one .any, .one .any, .one .any, .one .any, .one .any, .one .any, .one .any, .one .any, .one .any, .one .any, .one .any, .one .any, .one .any, .one .any, .one .any, .one .any, .one .any, .one .any, .one .any, .one .any, .one .any, .one .any, .one .any, .one .any, .one .any], mem := [.live { segs := [.xs (.int .u8) y.2.2.2.2.2.2.1 y.2.2.2.2.2.2.2.1], own := .ro }, .live { segs := [.xs .bool y.2.2.2.2.2.2.2.2.1 y.2.2.2.2.2.2.2.2.2.1], own := .own }] }
noncomputable def p_ref15_UnpackHints_l11_L (N : Nat) : LT := upd (LT.nil) 11 (loopE p_ref15_UnpackHints_l11_S N (p_ref15_UnpackHints_l11_F N) p_ref15_UnpackHints_l11_go)
theorem p_ref15_UnpackHints_l11_ok (N : Nat) : OkAll p_ref15_UnpackHints_E p_ref15_UnpackHints_H N (p_ref15_UnpackHints_l11_L N) (subs p_ref15_UnpackHints_c) :=
  addLoop (c := theLoop 11 p_ref15_UnpackHints_c) (OkAll.nil) (by kernel_rfl) (fun x => by kernel_rfl) (fun β x kn ke => by kernel_rfl)
noncomputable def p_ref15_UnpackHints_l6_S : Shape where
  h := { tmps := [.any, .sc (.int .i64), .sc (.vec 0 none 1), .any, .any, .any, .any, .any, .sc (.vec 1 none 256), .sc (.int .i64), .any, .any, .any, .any, .any, .any, .any, .any, .any, .any, .any, .any, .any, .any, .any, .any, .any, .any, .any, .any, .any, .any, .any, .any, .any, .any, .any, .any, .sc (.int .i64), .sc (.int .i64), .any, .any, .any, .any, .any, .any, .any, .any, .any, .any, .any, .any, .any, .any, .any, .any, .any, .any, .any, .any, .any, .any, .any, .any, .any, .any, .any, .any, .any, .any, .any, .any, .any, .any, .any, .any, .any, .any, .any, .any, .any, .any, .any, .any, .any, .any], mem := [.live [.xs (.int .u8) none] (.ro), .live [.xs .bool none] (.own)] }
  ks := [.int, .nat, .nat, .int, .int, .int, .nat, .xs, .nat, .xs]
  st := fun x => { tmps := [.one .any, .one (.sc (.int .i64 x.1)), .one (.sc (.vec 0 x.2.1 1)), .one .any, .one .any, .one .any, .one .any, .one .any, .one (.sc (.vec 1 x.2.2.1 256)), .one (.sc (.int .i64 x.2.2.2.1)), .one .any, .one .any, .one .any, .one .any, .one .any, .one .any, .one .any, .one .any, .one .any, .one .any, .one .any, .one .any, .one .any, .one .any, .one .any, .one .any, .one .any, .one .any, .one .any, .one .any, .one .any, .one .any, .one .any, .one .any, .one .any, .one .any, .one .any, .one .any, .one (.sc (.int .i64 x.2.2.2.2.1)), .one (.sc (.int .i64 x.2.2.2.2.2.1)), .one .any, .one .any, .one .any, .one .any, .one .any, .one .any, .one .any, .one .any, .one .any, .one .any, .one .any, .one .any, .one .any, .one .any, .one .any, .one .any, .one .any, .one .any, .one .any, .one .any, .one .any, .one .any, .one .any, .one .any, .one .any, .one .any, .one .any, .one .any, .one .any, .one .any, .one .any, .one .any, .one .any, .one .any, .one .any, .one .any, .one .any, .one .any, .one .any, .one .any, .one .any, .one .any, .one .any, .one .any, .one .any, .one .any], mem := [.live { segs := [.xs (.int .u8) x.2.2.2.2.2.2.1 x.2.2.2.2.2.2.2.1], own := .ro }, .live { segs := [.xs .bool x.2.2.2.2.2.2.2.2.1 x.2.2.2.2.2.2.2.2.2.1], own := .own }] }
noncomputable def p_ref15_UnpackHints_l6_F (N : Nat) (β : Type) (x : (Int × Nat × Nat × Int × Int × Int × Nat × List Int × Nat × List Int × Unit)) (kn : (Int × Nat × Nat × Int × Int × Int × Nat × List Int × Nat × List Int × Unit) → Option β) (ke : ((Int × Unit) ⊕ (Int × Nat × Nat × Nat × List Int × Nat × List Int × Unit)) → Option β) : Option β :=
  if (x.2.2.2.2.2.1 < x.2.2.2.2.1) then
    if 0 ≤ (IntKind.i64.wrap (x.1 + x.2.2.2.2.2.1)) then (
    if (IntKind.i64.wrap (x.1 + x.2.2.2.2.2.1)) < ((x.2.1 : Nat) : Int) then (
    if ((IntKind.i64.wrap (x.1 + x.2.2.2.2.2.1)).toNat) < x.2.2.2.2.2.2.1 then (
    if ((IntKind.i64.wrap (List.getD x.2.2.2.2.2.2.2.1 ((IntKind.i64.wrap (x.1 + x.2.2.2.2.2.1)).toNat) 0)) < x.2.2.2.1) then
      ke (.inl ((150:Int), ()))
    else
      if ((IntKind.i64.wrap (List.getD x.2.2.2.2.2.2.2.1 ((IntKind.i64.wrap (x.1 + x.2.2.2.2.2.1)).toNat) 0)) > x.1) then
        ke (.inl ((150:Int), ()))
      else
        iter (p_ref15_UnpackHints_l11_F N) N (x.1, x.2.1, x.2.2.1, x.2.2.2.1, x.2.2.2.2.2.1, (IntKind.i64.wrap (List.getD x.2.2.2.2.2.2.2.1 ((IntKind.i64.wrap (x.1 + x.2.2.2.2.2.1)).toNat) 0)), x.2.2.2.2.1, x.2.2.2.2.2.1, x.2.2.2.2.2.2.1, x.2.2.2.2.2.2.2.1, x.2.2.2.2.2.2.2.2.1, x.2.2.2.2.2.2.2.2.2.1, ()) fun y1 => (
        kn (y1.1, y1.2.1, y1.2.2.1, y1.2.2.2.1, y1.2.2.2.2.1, (IntKind.i64.wrap (y1.2.2.2.2.2.1 + (1:Int))), y1.2.2.2.2.2.2.1, y1.2.2.2.2.2.2.2.1, y1.2.2.2.2.2.2.2.2.1, y1.2.2.2.2.2.2.2.2.2.1, ()))) else none) else none) else none
  else
    ke (.inr (x.1, x.2.1, x.2.2.1, x.2.2.2.2.2.2.1, x.2.2.2.2.2.2.2.1, x.2.2.2.2.2.2.2.2.1, x.2.2.2.2.2.2.2.2.2.1, ()))
noncomputable def p_ref15_UnpackHints_l6_go : Go' ((Int × Unit) ⊕ (Int × Nat × Nat × Nat × List Int × Nat × List Int × Unit)) := fun y K => match y with
  | .inl y => K .ret { tmps := [.one .any, .one .any, .one .any, .one .any, .one .any, .one .any, .one (.sc (.nilsl)), .one (.sc (.int .i64 y.1)), .one .any, .one .any, .one .any, .one .any, .one .any, .one .any, .one .any, .one .any, .one .any, .one .any, .one .any, .one .any, .one .any, .one .any, .one .any, .one .any, .one .any, .one .any, .one .any, .one .any, .one .any, .one .any, .one .any, .one .any, .one .any, .one .any, .one .any, .one .any, .one .any, .one .any, .one .any, .one .any, .one .any, .one .any, .one .any, .one .any, .one .any, .one .any, .one .any, .one .any, .one .any, .one .any, .one .any, .one .any, .one .any, .one .any, .one .any, .one .any, .one .any, .one .any, .one .any, .one .any, .one .any, .one .any, .one .any, .one .any, .one .any, .one .any, .one .any, .one .any, .one .any, .one .any, .one .any, .one .any, .one .any, .one .any, .one .any, .one .any, .one .any, .one .any, .one .any, .one .any, .one .any, .one .any, .one .any, .one .any, .one .any, .one .any], mem := [] }
  | .inr y => K (.exit 0) { tmps := [.one .any, .one (.sc (.int .i64 y.1)), .one (.sc (.vec 0 y.2.1 1)), .one .any, .one .any, .one .any, .one .any, .one .any, .one (.sc (.vec 1 y.2.2.1 256)), .one .any, .one .any, .one .any, .one .any, .one .any, .one .any, .one .any, .one .any, .one .any, .one .any, .one .any, .one .any, .one .any, .one .any, .one .any, .one .any, .one .any, .one .any, .one .any, .one .any, .one .any, .one .any, .one .any, .one .any, .one .any, .one .any, .one .any, .one .any, .one .any, .one .any, .one .any, .one .any, .one .any, .one .any, .one .any, .one .any, .one .any, .one .any, .one .any, .one .any, .one .any, .one .any, .one .any, .one .any, .one .any, .one .any, .one .any, .one .any, .one .any, .one .any, .one .any, .one .any, .one .any, .one .any, .one .any, .one .any, .one .any, .one .any, .one .any, .one .any, .one .any, .one .any, .one .any, .one .any, .one .any, .one .any, .one .any, .one .any, .one .any, .one .any, .one .any, .one .any, .one .any, .one .any, .one .any, .one .any, .one .any], mem := [.live { segs := [.xs (.int .u8) y.2.2.2.1 y.2.2.2.2.1], own := .ro }, .live { segs := [.xs .bool y.2.2.2.2.2.1 y.2.2.2.2.2.2.1], own := .own }] }
noncomputable def p_ref15_UnpackHints_l6_L (N : Nat) : LT := upd (p_ref15_UnpackHints_l11_L N) 6 (loopE p_ref15_UnpackHints_l6_S N (p_ref15_UnpackHints_l6_F N) p_ref15_UnpackHints_l6_go)
theorem p_ref15_UnpackHints_l6_ok (N : Nat) : OkAll p_ref15_UnpackHints_E p_ref15_UnpackHints_H N (p_ref15_UnpackHints_l6_L N) (subs p_ref15_UnpackHints_c) :=
  addLoop (c := theLoop 6 p_ref15_UnpackHints_c) (p_ref15_UnpackHints_l11_ok N) (by kernel_rfl) (fun x => by kernel_rfl) (fun β x kn ke => by kernel_rfl)
abbrev p_ref15_UnpackHints_ks : List Kd := [.int .i64, .int .i64, .sl (.int .u8)]
abbrev p_ref15_UnpackHints_rs : List Kd := [.sla .bool 256, .int .i64]
noncomputable def p_ref15_UnpackHints (N : Nat) (x : Int × Int × List Int × Unit) : Option (List Int × Int) :=
  if (x.1 < (0:Int)) then
    some ([], (1:Int))
  else
    if (x.1 > (16:Int)) then
      some ([], (1:Int))
    else
      if (x.2.1 < (0:Int)) then
        some ([], (1:Int))
      else
        if (x.2.1 > (255:Int)) then
          some ([], (1:Int))
        else
          if ((((List.length x.2.2.1) : Nat) : Int) ≠ (IntKind.i64.wrap (x.2.1 + x.1))) then
            some ([], (1:Int))
          else
            if 0 ≤ x.1 then (
            if x.1 = x.1 then (
            if x.1 * 256 ≤ 281474976710656 then (
            iter (p_ref15_UnpackHints_l6_F N) N (x.2.1, (List.length x.2.2.1), (x.1.toNat), (0:Int), x.1, (0:Int), (List.length x.2.2.1), x.2.2.1, ((x.1.toNat) * 256), (List.replicate ((x.1.toNat) * 256) 0), ()) fun y => (match y with
            | .inl y2 => (
              some ([], y2.1))
            | .inr y3 => (
              (g_ref15_PackHints (y3.2.2.2.2.2.2.1, y3.1, ())).bind fun r4 => (
              if (r4.2 ≠ (0:Int)) then
                some ([], (150:Int))
              else
                (g_ref01_Equal (y3.2.2.2.2.1, r4.1, ())).bind fun r5 => (
                if (¬ (r5 = true)) then
                  some ([], (150:Int))
                else
                  some (y3.2.2.2.2.2.2.1, (0:Int))))))) else none) else none) else none
theorem p_ref15_UnpackHints_eq (N : Nat) (x : Ds [.int .i64, .int .i64, .sl (.int .u8)]) : funL p_ref15_UnpackHints_E p_ref15_UnpackHints_H (p_ref15_UnpackHints_l6_L N) N Go.Proofs.Try.f28 p_ref15_UnpackHints_c [.int .i64, .int .i64, .sl (.int .u8)] [.sla .bool 256, .int .i64] x = p_ref15_UnpackHints N x := by kernel_rfl
theorem p_ref15_UnpackHints_Eok (he_ref15_PackHints : SigOk Go.Proofs.Try.prog 26 ⟨[.sla .bool 256, .int .i64], [.sl (.int .u8), .int .i64], g_ref15_PackHints⟩) (he_ref01_Equal : SigOk Go.Proofs.Try.prog 29 ⟨[.sl (.int .u8), .sl (.int .u8)], [.bool], g_ref01_Equal⟩) : p_ref15_UnpackHints_E.Ok Go.Proofs.Try.prog := AE.of_ok (all_cons ty3_ok (all_cons ty4_ok (all_cons ty5_ok (all_cons ty31_ok (all_cons ty38_ok (all_cons ty39_ok all_nil)))))) (all_cons ⟨he_ref15_PackHints, enters_ref15_PackHints⟩ (all_cons ⟨he_ref01_Equal, enters_ref01_Equal⟩ all_nil))
theorem p_ref15_UnpackHints_ok (he_ref15_PackHints : SigOk Go.Proofs.Try.prog 26 ⟨[.sla .bool 256, .int .i64], [.sl (.int .u8), .int .i64], g_ref15_PackHints⟩) (he_ref01_Equal : SigOk Go.Proofs.Try.prog 29 ⟨[.sl (.int .u8), .sl (.int .u8)], [.bool], g_ref01_Equal⟩) {g : Ds [.int .i64, .int .i64, .sl (.int .u8)] → Option (Rs [.sla .bool 256, .int .i64])} (hg : ∀ x r, g x = some r → ∃ N, p_ref15_UnpackHints N x = some r) : SigOk Go.Proofs.Try.prog 28 ⟨[.int .i64, .int .i64, .sl (.int .u8)], [.sla .bool 256, .int .i64], g⟩ :=
  fun_of (E := p_ref15_UnpackHints_E) (H := p_ref15_UnpackHints_H) (L := fun N => p_ref15_UnpackHints_l6_L N) (c := p_ref15_UnpackHints_c) (ks := p_ref15_UnpackHints_ks) (rs := p_ref15_UnpackHints_rs) (F := p_ref15_UnpackHints) (p_ref15_UnpackHints_Eok he_ref15_PackHints he_ref01_Equal) mix Go.Proofs.Try.func28 (by kernel_rfl) (fun N => p_ref15_UnpackHints_l6_ok N) p_ref15_UnpackHints_eq hg

/-! livery/liverylaw15.same -/
noncomputable def p_law15_same_E : AE := AE.of [(4, ty4), (31, ty31), (38, ty38)] []
noncomputable def p_law15_same_H : Hints := [(4, [0, 1, 12, 13]), (2000000, []), (2000001, [0, 1, 12, 13]), (3000000, [4])]
noncomputable def p_law15_same_c : Code := (Go.Proofs.Try.f30).body.getD .skip
noncomputable def p_law15_same_l4_S : Shape where
  h := { tmps := [.sc (.vec 0 none 256), .sc (.vec 1 none 256), .any, .any, .any, .any, .any, .any, .any, .any, .any, .any, .sc (.int .i64), .sc (.int .i64), .any, .any, .any, .any, .any, .any, .any, .any, .any, .any, .any, .any], mem := [.live [.xs .bool none] (.ro), .live [.xs .bool none] (.ro)] }
  ks := [.nat, .nat, .int, .int, .nat, .xs, .nat, .xs]
  st := fun x => { tmps := [.one (.sc (.vec 0 x.1 256)), .one (.sc (.vec 1 x.2.1 256)), .one .any, .one .any, .one .any, .one .any, .one .any, .one .any, .one .any, .one .any, .one .any, .one .any, .one (.sc (.int .i64 x.2.2.1)), .one (.sc (.int .i64 x.2.2.2.1)), .one .any, .one .any, .one .any, .one .any, .one .any, .one .any, .one .any, .one .any, .one .any, .one .any, .one .any, .one .any], mem := [.live { segs := [.xs .bool x.2.2.2.2.1 x.2.2.2.2.2.1], own := .ro }, .live { segs := [.xs .bool x.2.2.2.2.2.2.1 x.2.2.2.2.2.2.2.1], own := .ro }] }
noncomputable def p_law15_same_l4_F (N : Nat) (β : Type) (x : (Nat × Nat × Int × Int × Nat × List Int × Nat × List Int × Unit)) (kn : (Nat × Nat × Int × Int × Nat × List Int × Nat × List Int × Unit) → Option β) (ke : ((Bool × Unit) ⊕ (Unit)) → Option β) : Option β :=
  if (x.2.2.2.1 < x.2.2.1) then
    if 0 ≤ x.2.2.2.1 then (
    if x.2.2.2.1 < ((x.1 : Nat) : Int) then (
    if ((x.2.2.2.1.toNat) * 256) + 256 ≤ x.2.2.2.2.1 then (
    if 0 ≤ x.2.2.2.1 then (
    if x.2.2.2.1 < ((x.2.1 : Nat) : Int) then (
    if ((x.2.2.2.1.toNat) * 256) + 256 ≤ x.2.2.2.2.2.2.1 then (
    if ((List.map (· != 0) (List.take 256 (List.drop ((x.2.2.2.1.toNat) * 256) x.2.2.2.2.2.1))) ≠ (List.map (· != 0) (List.take 256 (List.drop ((x.2.2.2.1.toNat) * 256) x.2.2.2.2.2.2.2.1)))) then
      ke (.inl (false, ()))
    else
      kn (x.1, x.2.1, x.2.2.1, (IntKind.i64.wrap (x.2.2.2.1 + (1:Int))), x.2.2.2.2.1, x.2.2.2.2.2.1, x.2.2.2.2.2.2.1, x.2.2.2.2.2.2.2.1, ())) else none) else none) else none) else none) else none) else none
  else
    ke (.inr (()))
noncomputable def p_law15_same_l4_go : Go' ((Bool × Unit) ⊕ (Unit)) := fun y K => match y with
  | .inl y => K .ret { tmps := [.one .any, .one .any, .one .any, .one .any, .one (.sc (.known y.1)), .one .any, .one .any, .one .any, .one .any, .one .any, .one .any, .one .any, .one .any, .one .any, .one .any, .one .any, .one .any, .one .any, .one .any, .one .any, .one .any, .one .any, .one .any, .one .any, .one .any, .one .any], mem := [] }
  | .inr y => K (.exit 0) { tmps := [.one .any, .one .any, .one .any, .one .any, .one .any, .one .any, .one .any, .one .any, .one .any, .one .any, .one .any, .one .any, .one .any, .one .any, .one .any, .one .any, .one .any, .one .any, .one .any, .one .any, .one .any, .one .any, .one .any, .one .any, .one .any, .one .any], mem := [] }
noncomputable def p_law15_same_l4_L (N : Nat) : LT := upd (LT.nil) 4 (loopE p_law15_same_l4_S N (p_law15_same_l4_F N) p_law15_same_l4_go)
theorem p_law15_same_l4_ok (N : Nat) : OkAll p_law15_same_E p_law15_same_H N (p_law15_same_l4_L N) (subs p_law15_same_c) :=
  addLoop (c := theLoop 4 p_law15_same_c) (OkAll.nil) (by kernel_rfl) (fun x => by kernel_rfl) (fun β x kn ke => by kernel_rfl)
abbrev p_law15_same_ks : List Kd := [.sla .bool 256, .sla .bool 256]
abbrev p_law15_same_rs : List Kd := [.bool]
noncomputable def p_law15_same (N : Nat) (x : List Int × List Int × Unit) : Option (Bool) :=
  if ((((List.length x.1 / 256) : Nat) : Int) ≠ (((List.length x.2.1 / 256) : Nat) : Int)) then
    some false
  else
    iter (p_law15_same_l4_F N) N ((List.length x.1 / 256), (List.length x.2.1 / 256), (((List.length x.1 / 256) : Nat) : Int), (0:Int), (List.length x.1), x.1, (List.length x.2.1), x.2.1, ()) fun y => (match y with
    | .inl y1 => (
      some y1.1)
    | .inr y2 => (
      some true))
theorem p_law15_same_eq (N : Nat) (x : Ds [.sla .bool 256, .sla .bool 256]) : funL p_law15_same_E p_law15_same_H (p_law15_same_l4_L N) N Go.Proofs.Try.f30 p_law15_same_c [.sla .bool 256, .sla .bool 256] [.bool] x = p_law15_same N x := by kernel_rfl
theorem p_law15_same_Eok : p_law15_same_E.Ok Go.Proofs.Try.prog := AE.of_ok (all_cons ty4_ok (all_cons ty31_ok (all_cons ty38_ok all_nil))) all_nil
theorem p_law15_same_ok {g : Ds [.sla .bool 256, .sla .bool 256] → Option (Rs [.bool])} (hg : ∀ x r, g x = some r → ∃ N, p_law15_same N x = some r) : SigOk Go.Proofs.Try.prog 30 ⟨[.sla .bool 256, .sla .bool 256], [.bool], g⟩ :=
  fun_of (E := p_law15_same_E) (H := p_law15_same_H) (L := fun N => p_law15_same_l4_L N) (c := p_law15_same_c) (ks := p_law15_same_ks) (rs := p_law15_same_rs) (F := p_law15_same) (p_law15_same_Eok) mix Go.Proofs.Try.func30 (by kernel_rfl) (fun N => p_law15_same_l4_ok N) p_law15_same_eq hg

/-! livery/liverylaw15.DringPlaces -/
noncomputable def p_law15_DringPlaces_E : AE := AE.of [(38, ty38)] [(17, ⟨[], [.bool], g_law15_live⟩), (25, ⟨[.sla .bool 256, .int .i64], [.sl (.int .u8), .int .i64], g_dring_PackHints⟩), (26, ⟨[.sla .bool 256, .int .i64], [.sl (.int .u8), .int .i64], g_ref15_PackHints⟩), (27, ⟨[.int .i64, .int .i64, .sl (.int .u8)], [.sla .bool 256, .int .i64], g_dring_UnpackHints⟩), (28, ⟨[.int .i64, .int .i64, .sl (.int .u8)], [.sla .bool 256, .int .i64], g_ref15_UnpackHints⟩), (29, ⟨[.sl (.int .u8), .sl (.int .u8)], [.bool], g_ref01_Equal⟩), (30, ⟨[.sla .bool 256, .sla .bool 256], [.bool], g_law15_same⟩)]
noncomputable def p_law15_DringPlaces_H : Hints := [(3000000, [8])]
noncomputable def p_law15_DringPlaces_c : Code := (Go.Proofs.Try.f7).body.getD .skip
abbrev p_law15_DringPlaces_ks : List Kd := [.sla .bool 256, .int .i64, .int .i64, .sl (.int .u8)]
abbrev p_law15_DringPlaces_rs : List Kd := [.bool]
noncomputable def p_law15_DringPlaces (N : Nat) (x : List Int × Int × Int × List Int × Unit) : Option (Bool) :=
  if ((((List.length x.1 / 256) : Nat) : Int) > (100:Int)) then
    (g_law15_live (())).bind fun r1 => (
    some (decide (r1 = true)))
  else
    (g_dring_PackHints (x.1, x.2.2.1, ())).bind fun r2 => (
    (g_ref15_PackHints (x.1, x.2.2.1, ())).bind fun r3 => (
    (g_dring_UnpackHints (x.2.1, x.2.2.1, x.2.2.2.1, ())).bind fun r4 => (
    (g_ref15_UnpackHints (x.2.1, x.2.2.1, x.2.2.2.1, ())).bind fun r5 => (
    (g_law15_live (())).bind fun r6 => (
    if (r6 = true) then
      (g_ref01_Equal (r2.1, r3.1, ())).bind fun r7 => (
      if (r7 = true) then
        if (r2.2 = r3.2) then
          (g_law15_same (r4.1, r5.1, ())).bind fun r8 => (
          if (r8 = true) then
            some (decide (r4.2 = r5.2))
          else
            some false)
        else
          some false
      else
        some false)
    else
      some false)))))
theorem p_law15_DringPlaces_eq (N : Nat) (x : Ds [.sla .bool 256, .int .i64, .int .i64, .sl (.int .u8)]) : funL p_law15_DringPlaces_E p_law15_DringPlaces_H (LT.nil) N Go.Proofs.Try.f7 p_law15_DringPlaces_c [.sla .bool 256, .int .i64, .int .i64, .sl (.int .u8)] [.bool] x = p_law15_DringPlaces N x := by kernel_rfl
theorem p_law15_DringPlaces_Eok (he_law15_live : SigOk Go.Proofs.Try.prog 17 ⟨[], [.bool], g_law15_live⟩) (he_dring_PackHints : SigOk Go.Proofs.Try.prog 25 ⟨[.sla .bool 256, .int .i64], [.sl (.int .u8), .int .i64], g_dring_PackHints⟩) (he_ref15_PackHints : SigOk Go.Proofs.Try.prog 26 ⟨[.sla .bool 256, .int .i64], [.sl (.int .u8), .int .i64], g_ref15_PackHints⟩) (he_dring_UnpackHints : SigOk Go.Proofs.Try.prog 27 ⟨[.int .i64, .int .i64, .sl (.int .u8)], [.sla .bool 256, .int .i64], g_dring_UnpackHints⟩) (he_ref15_UnpackHints : SigOk Go.Proofs.Try.prog 28 ⟨[.int .i64, .int .i64, .sl (.int .u8)], [.sla .bool 256, .int .i64], g_ref15_UnpackHints⟩) (he_ref01_Equal : SigOk Go.Proofs.Try.prog 29 ⟨[.sl (.int .u8), .sl (.int .u8)], [.bool], g_ref01_Equal⟩) (he_law15_same : SigOk Go.Proofs.Try.prog 30 ⟨[.sla .bool 256, .sla .bool 256], [.bool], g_law15_same⟩) : p_law15_DringPlaces_E.Ok Go.Proofs.Try.prog := AE.of_ok (all_cons ty38_ok all_nil) (all_cons ⟨he_law15_live, enters_law15_live⟩ (all_cons ⟨he_dring_PackHints, enters_dring_PackHints⟩ (all_cons ⟨he_ref15_PackHints, enters_ref15_PackHints⟩ (all_cons ⟨he_dring_UnpackHints, enters_dring_UnpackHints⟩ (all_cons ⟨he_ref15_UnpackHints, enters_ref15_UnpackHints⟩ (all_cons ⟨he_ref01_Equal, enters_ref01_Equal⟩ (all_cons ⟨he_law15_same, enters_law15_same⟩ all_nil)))))))
theorem p_law15_DringPlaces_ok (he_law15_live : SigOk Go.Proofs.Try.prog 17 ⟨[], [.bool], g_law15_live⟩) (he_dring_PackHints : SigOk Go.Proofs.Try.prog 25 ⟨[.sla .bool 256, .int .i64], [.sl (.int .u8), .int .i64], g_dring_PackHints⟩) (he_ref15_PackHints : SigOk Go.Proofs.Try.prog 26 ⟨[.sla .bool 256, .int .i64], [.sl (.int .u8), .int .i64], g_ref15_PackHints⟩) (he_dring_UnpackHints : SigOk Go.Proofs.Try.prog 27 ⟨[.int .i64, .int .i64, .sl (.int .u8)], [.sla .bool 256, .int .i64], g_dring_UnpackHints⟩) (he_ref15_UnpackHints : SigOk Go.Proofs.Try.prog 28 ⟨[.int .i64, .int .i64, .sl (.int .u8)], [.sla .bool 256, .int .i64], g_ref15_UnpackHints⟩) (he_ref01_Equal : SigOk Go.Proofs.Try.prog 29 ⟨[.sl (.int .u8), .sl (.int .u8)], [.bool], g_ref01_Equal⟩) (he_law15_same : SigOk Go.Proofs.Try.prog 30 ⟨[.sla .bool 256, .sla .bool 256], [.bool], g_law15_same⟩) {g : Ds [.sla .bool 256, .int .i64, .int .i64, .sl (.int .u8)] → Option (Rs [.bool])} (hg : ∀ x r, g x = some r → ∃ N, p_law15_DringPlaces N x = some r) : SigOk Go.Proofs.Try.prog 7 ⟨[.sla .bool 256, .int .i64, .int .i64, .sl (.int .u8)], [.bool], g⟩ :=
  fun_of (E := p_law15_DringPlaces_E) (H := p_law15_DringPlaces_H) (L := fun N => LT.nil) (c := p_law15_DringPlaces_c) (ks := p_law15_DringPlaces_ks) (rs := p_law15_DringPlaces_rs) (F := p_law15_DringPlaces) (p_law15_DringPlaces_Eok he_law15_live he_dring_PackHints he_ref15_PackHints he_dring_UnpackHints he_ref15_UnpackHints he_ref01_Equal he_law15_same) mix Go.Proofs.Try.func7 (by kernel_rfl) (fun N => OkAll.nil) p_law15_DringPlaces_eq hg
end Go.Ax.TryP
/-! ### Hints as bytes: both programs -/
set_option linter.unusedVariables false
namespace Go.Ax.TryP
theorem accP_pre (f : Nat → List Int) (t : Nat) : ∀ d : Nat, ∃ r, accP f (t + d) = accP f t ++ r
  | 0 => ⟨[], by simp⟩
  | d + 1 => by
    obtain ⟨r, h⟩ := accP_pre f t d
    exact ⟨r ++ f (t + d), by rw [← Nat.add_assoc, accP, h, List.append_assoc]⟩
theorem accP_le (f : Nat → List Int) {t u : Nat} (h : t ≤ u) : (accP f t).length ≤ (accP f u).length := by
  obtain ⟨r, e⟩ := accP_pre f t (u - t)
  rw [show t + (u - t) = u by omega] at e
  rw [e, List.length_append]
  omega
theorem accP_len {f : Nat → List Int} {c : Nat} (h : ∀ t, (f t).length ≤ c) : ∀ t, (accP f t).length ≤ c * t
  | 0 => by simp [accP]
  | t + 1 => by
    have a := accP_len h t
    have b := h t
    rw [accP, List.length_append, Nat.mul_succ]
    omega
theorem mkP_len (l : List Int) (k i : Nat) : (mkP l k i).length ≤ 1 := by unfold mkP; split <;> simp
theorem rowP_len (l : List Int) (k : Nat) : (rowP l k).length ≤ 256 := by have := accP_len (mkP_len l k) 256; exact this
theorem allP_len (l : List Int) (k : Nat) : (allP l k).length ≤ 256 * k := accP_len (rowP_len l) k
theorem mkP_yes {l : List Int} {k i : Nat} (h : l.getD (k * 256 + i) 0 ≠ 0) : accP (mkP l k) (i + 1) = accP (mkP l k) i ++ [(i : Int)] := by rw [accP, mkP, if_pos h]
theorem mkP_no {l : List Int} {k i : Nat} (h : ¬ l.getD (k * 256 + i) 0 ≠ 0) : accP (mkP l k) (i + 1) = accP (mkP l k) i := by rw [accP, mkP, if_neg h, List.append_nil]
def outP (m : Nat) (P E : List Int) : List Int := P ++ List.replicate (m - P.length) 0 ++ E
theorem outP_put {m : Nat} {P E : List Int} (h : P.length < m) (v : Int) : (outP m P E).set P.length v = outP m (P ++ [v]) E := by
  unfold outP
  obtain ⟨d, hd⟩ : ∃ d, m - P.length = d + 1 := ⟨m - P.length - 1, by omega⟩
  rw [List.append_assoc, List.set_append_right _ _ (Nat.le_refl _), Nat.sub_self, hd, List.replicate_succ, List.cons_append, List.set_cons_zero, List.length_append, List.length_singleton, show m - (P.length + 1) = d by omega]
  simp
theorem outP_end {m : Nat} {P E : List Int} (h : P.length ≤ m) (k : Nat) (v : Int) : (outP m P E).set (m + k) v = outP m P (E.set k v) := by
  unfold outP
  have hl : (P ++ List.replicate (m - P.length) 0).length = m := by rw [List.length_append, List.length_replicate]; omega
  rw [List.set_append_right _ _ (by omega), hl, show m + k - m = k by omega]
theorem allP_succ (l : List Int) (k : Nat) : allP l (k + 1) = allP l k ++ accP (mkP l k) 256 := rfl
abbrev Ip := Nat × Int × Nat × Int × Int × Int × Int × Int × Nat × List Int × Nat × List Int × Unit
abbrev Op := (Int × Unit) ⊕ (Nat × Int × Nat × Int × Int × Int × Int × Nat × List Int × Nat × List Int × Unit)
theorem pk_in {l E : List Int} {n m k : Nat} (hl : l.length = n * 256) (hk : k < n) (hm : m ≤ 255) {L N : Nat} {nI : Int} {β : Type} (K : Op → Option β) (hL : L = m + n) : ∀ j i, i + j = 256 → (allP l k ++ accP (mkP l k) i).length ≤ m → ∀ q, j < q →
    iter (p_dring_PackHints_l9_F N) q (n, (m : Int), L, ((allP l k ++ accP (mkP l k) i).length : Int), (k : Int), nI, (k : Int), (i : Int), l.length, l, L, outP m (allP l k ++ accP (mkP l k) i) E, ()) K
    = if (allP l (k + 1)).length ≤ m then K (.inr (n, (m : Int), L, ((allP l (k + 1)).length : Int), (k : Int), nI, (k : Int), l.length, l, L, outP m (allP l (k + 1)) E, ())) else K (.inl (3, ()))
  | 0, i, hi, hP, q, hq => by
    obtain ⟨q, rfl⟩ : ∃ m, q = m + 1 := ⟨q - 1, by omega⟩
    have hi : i = 256 := by omega
    subst hi
    rw [allP_succ, if_pos hP]
    simp only [iter]
    unfold p_dring_PackHints_l9_F
    dsimp only
    rw [if_neg (by omega)]
  | j + 1, i, hi, hP, q, hq => by
    obtain ⟨q, rfl⟩ : ∃ m, q = m + 1 := ⟨q - 1, by omega⟩
    simp only [iter]
    unfold p_dring_PackHints_l9_F
    dsimp only
    rw [if_pos (by omega), if_pos (by omega), if_pos (by omega), if_pos (by omega), if_pos (by omega), Int.toNat_natCast, Int.toNat_natCast, if_pos (by omega), wrap_i64 (x := (i : Int) + 1) (by omega) (by omega)]
    by_cases h : l.getD (k * 256 + i) 0 ≠ 0
    · rw [if_neg (by omega)]
      have hp := mkP_yes h
      by_cases g : (allP l k ++ accP (mkP l k) i).length = m
      · rw [if_pos (by omega), if_neg ?_]
        have := accP_le (mkP l k) (show i + 1 ≤ 256 by omega)
        rw [hp, List.length_append, List.length_singleton] at this
        rw [allP_succ, List.length_append]
        rw [List.length_append] at g
        omega
      · rw [if_neg (by omega), if_pos (by omega), if_pos (by omega), Int.toNat_natCast, if_pos (by omega), outP_put (by omega), wrap_u8 (by omega) (by omega), wrap_i64 (by omega) (by omega)]
        have e : allP l k ++ accP (mkP l k) i ++ [(i : Int)] = allP l k ++ accP (mkP l k) (i + 1) := by rw [hp, List.append_assoc]
        have el : ((allP l k ++ accP (mkP l k) i).length : Int) + 1 = ((allP l k ++ accP (mkP l k) (i + 1)).length : Int) := by rw [← e, List.length_append (bs := [(i : Int)]), List.length_singleton]; omega
        rw [e, el]
        exact pk_in (N := N) hl hk hm K hL j (i + 1) (by omega) (by omega) q (by omega)
    · rw [if_pos h, ← mkP_no h]
      rw [← mkP_no h] at hP
      exact pk_in (N := N) hl hk hm K hL j (i + 1) (by omega) hP q (by omega)
abbrev Iq := Nat × Int × Nat × Int × Int × Int × Nat × List Int × Nat × List Int × Unit
abbrev Oq := (Int × Unit) ⊕ (Nat × Nat × List Int × Unit)
theorem pk_out {l : List Int} {n m : Nat} (hl : l.length = n * 256) (hm : m ≤ 255) (hn : n ≤ 16) {N : Nat} (hN : 300 < N) {β : Type} (K : Oq → Option β) : ∀ j k, k + j = n → (allP l k).length ≤ m → ∀ q, j < q →
    iter (p_dring_PackHints_l6_F N) q (n, (m : Int), m + n, ((allP l k).length : Int), (n : Int), (k : Int), l.length, l, m + n, outP m (allP l k) (part (endP l) k (List.replicate n 0)), ()) K
    = if (allP l n).length ≤ m then K (.inr (m + n, m + n, outP m (allP l n) ((List.range n).map (endP l)), ())) else K (.inl (3, ()))
  | 0, k, hk, hP, q, hq => by
    obtain ⟨q, rfl⟩ : ∃ m, q = m + 1 := ⟨q - 1, by omega⟩
    have hk : k = n := by omega
    subst hk
    rw [if_pos hP]
    simp only [iter]
    unfold p_dring_PackHints_l6_F
    dsimp only
    rw [if_neg (by omega), part_all (List.length_replicate ..)]
  | j + 1, k, hk, hP, q, hq => by
    obtain ⟨q, rfl⟩ : ∃ m, q = m + 1 := ⟨q - 1, by omega⟩
    simp only [iter]
    unfold p_dring_PackHints_l6_F
    dsimp only
    rw [if_pos (by omega)]
    have e0 : allP l k = allP l k ++ accP (mkP l k) 0 := (List.append_nil _).symm
    have := pk_in (N := N) (l := l) (E := part (endP l) k (List.replicate n 0)) (n := n) (m := m) (k := k) (L := m + n) (nI := (n : Int)) hl (by omega) hm (fun y => match y with
      | .inl y1 => K (.inl (y1.1, ()))
      | .inr y2 => (if 0 ≤ (IntKind.i64.wrap (y2.2.1 + y2.2.2.2.2.1)) then (
      if (IntKind.i64.wrap (y2.2.1 + y2.2.2.2.2.1)) < ((y2.2.2.1 : Nat) : Int) then (
      if ((IntKind.i64.wrap (y2.2.1 + y2.2.2.2.2.1)).toNat) < y2.2.2.2.2.2.2.2.2.2.1 then (
      iter (p_dring_PackHints_l6_F N) q (y2.1, y2.2.1, y2.2.2.1, y2.2.2.2.1, y2.2.2.2.2.2.1, (IntKind.i64.wrap (y2.2.2.2.2.2.2.1 + (1:Int))), y2.2.2.2.2.2.2.2.1, y2.2.2.2.2.2.2.2.2.1, y2.2.2.2.2.2.2.2.2.2.1, (List.set y2.2.2.2.2.2.2.2.2.2.2.1 ((IntKind.i64.wrap (y2.2.1 + y2.2.2.2.2.1)).toNat) (IntKind.u8.wrap y2.2.2.2.1)), ()) K) else none) else none) else none)) rfl 256 0 (by omega) (by rw [← e0]; exact hP) N (by omega)
    rw [← e0] at this
    refine this.trans ?_
    clear this
    by_cases h : (allP l (k + 1)).length ≤ m
    · rw [if_pos h]
      have ew : IntKind.i64.wrap ((m : Int) + k) = ((m + k : Nat) : Int) := by rw [wrap_i64 (by omega) (by omega)]; omega
      dsimp only
      rw [ew, if_pos (by omega), if_pos (by omega), Int.toNat_natCast, if_pos (by omega), wrap_i64 (by omega) (by omega), wrap_u8 (by omega) (by omega), outP_end h, part_set' (h := endP l) (i := k) (z := ((allP l (k + 1)).length : Int)) (by rw [List.length_replicate]; omega) rfl]
      exact pk_out hl hm hn hN K j (k + 1) (by omega) h q (by omega)
    · rw [if_neg h, if_neg ?_]
      have := accP_le (rowP l) (show k + 1 ≤ n by omega)
      exact fun h2 => h (Nat.le_trans this h2)
theorem wf_hints {l : List Int} (h : Kd.wf (.sla .bool 256) l) : ∃ n, l.length = n * 256 ∧ ∀ z ∈ l, z = 0 ∨ z = 1 := by
  obtain ⟨⟨n, h1, _⟩, h2⟩ := h
  exact ⟨n, h1, h2⟩
theorem q_dring_PackHints : ∀ x r, g_dring_PackHints x = some r → ∃ N, p_dring_PackHints N x = some r := by
  refine Spec_of (ks := p_dring_PackHints_ks) (rs := p_dring_PackHints_rs) fun x hw hq => ⟨400, ?_⟩
  obtain ⟨(l : List Int), (most : Int), u⟩ := x
  obtain ⟨n, (hl : l.length = n * 256), _⟩ := wf_hints hw.1
  have en : l.length / 256 = n := by omega
  unfold p_dring_PackHints packP
  dsimp only
  rw [en]
  by_cases h1 : n > 16
  · rw [if_pos (by omega), if_pos (.inl (.inl h1))]
  rw [if_neg (by omega)]
  by_cases h2 : most < 0
  · rw [if_pos h2, if_pos (.inl (.inr h2))]
  rw [if_neg h2]
  by_cases h3 : 255 < most
  · rw [if_pos h3, if_pos (.inr h3)]
  rw [if_neg h3, if_neg (by omega : ¬((n > 16 ∨ most < 0) ∨ 255 < most))]
  obtain ⟨m, rfl⟩ : ∃ m : Nat, most = m := ⟨most.toNat, by omega⟩
  have ew : IntKind.i64.wrap ((m : Int) + n) = ((m + n : Nat) : Int) := by rw [wrap_i64 (by omega) (by omega)]; omega
  rw [ew, if_pos (by omega), if_pos rfl, if_pos (by omega), Int.toNat_natCast, Int.toNat_natCast]
  have ez : List.replicate (m + n) (0 : Int) = outP m (allP l 0) (part (endP l) 0 (List.replicate n 0)) := by
    show _ = [] ++ List.replicate (m - 0) 0 ++ ((List.range 0).map (endP l) ++ List.drop 0 (List.replicate n 0))
    simp
  rw [ez]
  refine (pk_out hl (by omega) (by omega) (N := 400) (by omega) _ n 0 (by omega) (by show 0 ≤ m; omega) 400 (by omega)).trans ?_
  by_cases h : (allP l n).length ≤ m
  · rw [if_pos h, if_neg (by omega)]
    rfl
  · rw [if_neg h, if_pos (by omega)]
end Go.Ax.TryP
/-! ### Hints as bytes: the reference; bytes that are equal -/
set_option linter.unusedVariables false
namespace Go.Ax.TryP
theorem set_one (v : Int) : (List.replicate 1 (0 : Int)).set 0 v = [v] := rfl
abbrev Irp := Nat × Int × Nat × Nat × Int × Int × Int × Int × Nat × List Int × Nat × List Int × Nat × List Int × Unit
abbrev Orp := Nat × Int × Nat × Nat × Int × Int × Nat × List Int × Nat × List Int × Nat × List Int × Unit
theorem rk_in {l E : List Int} {n ne k : Nat} (hl : l.length = n * 256) (hk : k < n) (hn : n ≤ 16) {m nI : Int} {N : Nat} {β : Type} (K : Orp → Option β) : ∀ j i, i + j = 256 → ∀ q, j < q →
    iter (p_ref15_PackHints_l8_F N) q (n, m, (allP l k ++ accP (mkP l k) i).length, ne, (k : Int), nI, (k : Int), (i : Int), l.length, l, (allP l k ++ accP (mkP l k) i).length, allP l k ++ accP (mkP l k) i, ne, E, ()) K
    = K (n, m, (allP l (k + 1)).length, ne, nI, (k : Int), l.length, l, (allP l (k + 1)).length, allP l (k + 1), ne, E, ())
  | 0, i, hi, q, hq => by
    obtain ⟨q, rfl⟩ : ∃ m, q = m + 1 := ⟨q - 1, by omega⟩
    have hi : i = 256 := by omega
    subst hi
    rw [allP_succ]
    simp only [iter]
    unfold p_ref15_PackHints_l8_F
    dsimp only
    rw [if_neg (by omega)]
  | j + 1, i, hi, q, hq => by
    obtain ⟨q, rfl⟩ : ∃ m, q = m + 1 := ⟨q - 1, by omega⟩
    simp only [iter]
    unfold p_ref15_PackHints_l8_F
    dsimp only
    rw [if_pos (by omega), if_pos (by omega), if_pos (by omega), if_pos (by omega), if_pos (by omega), Int.toNat_natCast, Int.toNat_natCast, if_pos (by omega), wrap_i64 (x := (i : Int) + 1) (by omega) (by omega)]
    by_cases h : l.getD (k * 256 + i) 0 ≠ 0
    · have hp := mkP_yes h
      have b1 := allP_len l k
      have b2 := accP_len (mkP_len l k) i
      have bl : (allP l k ++ accP (mkP l k) i).length ≤ 256 * k + 1 * i := by rw [List.length_append]; omega
      rw [if_pos h, if_pos (by omega), wrap_u8 (by omega) (by omega)]
      have e : allP l k ++ accP (mkP l k) i ++ [(i : Int)] = allP l k ++ accP (mkP l k) (i + 1) := by rw [hp, List.append_assoc]
      have el : (allP l k ++ accP (mkP l k) i).length + 1 = (allP l k ++ accP (mkP l k) (i + 1)).length := by rw [← e, List.length_append (bs := [(i : Int)]), List.length_singleton]
      rw [set_one, e, el]
      exact rk_in (N := N) hl hk hn K j (i + 1) (by omega) q (by omega)
    · rw [if_neg h, ← mkP_no h]
      exact rk_in (N := N) hl hk hn K j (i + 1) (by omega) q (by omega)
abbrev Irq := Nat × Int × Nat × Nat × Int × Int × Nat × List Int × Nat × List Int × Nat × List Int × Unit
abbrev Orq := (Int × Unit) ⊕ (Int × Nat × Nat × Nat × List Int × Nat × List Int × Unit)
theorem rk_out {l : List Int} {n m : Nat} (hl : l.length = n * 256) (hm : m ≤ 255) (hn : n ≤ 16) {N : Nat} (hN : 300 < N) {β : Type} (K : Orq → Option β) : ∀ j k, k + j = n → (allP l k).length ≤ m → ∀ q, j < q →
    iter (p_ref15_PackHints_l5_F N) q (n, (m : Int), (allP l k).length, k, (n : Int), (k : Int), l.length, l, (allP l k).length, allP l k, k, (List.range k).map (endP l), ()) K
    = if (allP l n).length ≤ m then K (.inr ((m : Int), (allP l n).length, n, (allP l n).length, allP l n, n, (List.range n).map (endP l), ())) else K (.inl (3, ()))
  | 0, k, hk, hP, q, hq => by
    obtain ⟨q, rfl⟩ : ∃ m, q = m + 1 := ⟨q - 1, by omega⟩
    have hk : k = n := by omega
    subst hk
    rw [if_pos hP]
    simp only [iter]
    unfold p_ref15_PackHints_l5_F
    dsimp only
    rw [if_neg (by omega)]
  | j + 1, k, hk, hP, q, hq => by
    obtain ⟨q, rfl⟩ : ∃ m, q = m + 1 := ⟨q - 1, by omega⟩
    simp only [iter]
    unfold p_ref15_PackHints_l5_F
    dsimp only
    rw [if_pos (by omega)]
    have e0 : allP l k = allP l k ++ accP (mkP l k) 0 := (List.append_nil _).symm
    have := rk_in (N := N) (l := l) (E := (List.range k).map (endP l)) (n := n) (ne := k) (k := k) (m := (m : Int)) (nI := (n : Int)) hl (by omega) hn (fun y1 => if (((y1.2.2.1 : Nat) : Int) > y1.2.1) then
      K (.inl ((3:Int), ()))
    else
      if (y1.2.2.2.1 + 1) * 1 ≤ 140737488355328 then (
      iter (p_ref15_PackHints_l5_F N) q (y1.1, y1.2.1, y1.2.2.1, (y1.2.2.2.1 + 1), y1.2.2.2.2.1, (IntKind.i64.wrap (y1.2.2.2.2.2.1 + (1:Int))), y1.2.2.2.2.2.2.1, y1.2.2.2.2.2.2.2.1, y1.2.2.2.2.2.2.2.2.1, y1.2.2.2.2.2.2.2.2.2.1, (y1.2.2.2.2.2.2.2.2.2.2.1 + 1), (y1.2.2.2.2.2.2.2.2.2.2.2.1 ++ (List.set (List.replicate 1 0) 0 (IntKind.u8.wrap ((y1.2.2.1 : Nat) : Int)))), ()) K) else none) 256 0 (by omega) N (by omega)
    rw [← e0] at this
    refine this.trans ?_
    clear this
    dsimp only
    by_cases h : (allP l (k + 1)).length ≤ m
    · rw [if_neg (by omega), if_pos (by omega), wrap_i64 (by omega) (by omega), wrap_u8 (by omega) (by omega), set_one]
      have e : (List.range k).map (endP l) ++ [((allP l (k + 1)).length : Int)] = (List.range (k + 1)).map (endP l) := map_range_succ (endP l) k
      rw [e]
      exact rk_out hl hm hn hN K j (k + 1) (by omega) h q (by omega)
    · rw [if_pos (by omega), if_neg ?_]
      have := accP_le (rowP l) (show k + 1 ≤ n by omega)
      exact fun h2 => h (Nat.le_trans this h2)
abbrev Iz := Int × Nat × Nat × Nat × List Int × Nat × List Int × Unit
theorem rk_pad {P E : List Int} {m ne : Nat} (hm : m ≤ 255) {N : Nat} {β : Type} (K : _ → Option β) : ∀ j d, P.length + d + j = m → ∀ q, j < q →
    iter (p_ref15_PackHints_l17_F N) q ((m : Int), P.length + d, ne, P.length + d, P ++ List.replicate d 0, ne, E, ()) K
    = K (m, ne, m, P ++ List.replicate (m - P.length) 0, ne, E, ())
  | 0, d, h, q, hq => by
    obtain ⟨q, rfl⟩ : ∃ m, q = m + 1 := ⟨q - 1, by omega⟩
    simp only [iter]
    unfold p_ref15_PackHints_l17_F
    dsimp only
    rw [if_neg (by omega), show P.length + d = m by omega, show m - P.length = d by omega]
  | j + 1, d, h, q, hq => by
    obtain ⟨q, rfl⟩ : ∃ m, q = m + 1 := ⟨q - 1, by omega⟩
    simp only [iter]
    unfold p_ref15_PackHints_l17_F
    dsimp only
    rw [if_pos (by omega), if_pos (by omega), set_one, List.append_assoc, ← List.replicate_succ', Nat.add_assoc]
    exact rk_pad (N := N) hm K j (d + 1) (by omega) q (by omega)
theorem q_ref15_PackHints : ∀ x r, g_ref15_PackHints x = some r → ∃ N, p_ref15_PackHints N x = some r := by
  refine Spec_of (ks := p_ref15_PackHints_ks) (rs := p_ref15_PackHints_rs) fun x hw hq => ⟨400, ?_⟩
  obtain ⟨(l : List Int), (most : Int), u⟩ := x
  obtain ⟨n, (hl : l.length = n * 256), _⟩ := wf_hints hw.1
  have en : l.length / 256 = n := by omega
  unfold p_ref15_PackHints packP
  dsimp only
  rw [en]
  by_cases h1 : n > 16
  · rw [if_pos (by omega), if_pos (.inl (.inl h1))]
  rw [if_neg (by omega)]
  by_cases h2 : most < 0
  · rw [if_pos h2, if_pos (.inl (.inr h2))]
  rw [if_neg h2]
  by_cases h3 : 255 < most
  · rw [if_pos h3, if_pos (.inr h3)]
  rw [if_neg h3, if_neg (by omega : ¬((n > 16 ∨ most < 0) ∨ 255 < most))]
  obtain ⟨m, rfl⟩ : ∃ m : Nat, most = m := ⟨most.toNat, by omega⟩
  rw [Int.toNat_natCast]
  refine (rk_out hl (m := m) (by omega) (by omega) (N := 400) (by omega) _ n 0 (by omega) (by show 0 ≤ m; omega) 400 (by omega)).trans ?_
  by_cases h : (allP l n).length ≤ m
  · rw [if_pos h, if_neg (by omega)]
    dsimp only
    have e := rk_pad (P := allP l n) (E := (List.range n).map (endP l)) (m := m) (ne := n) (by omega) (N := 400) (β := List Int × Int) (fun y4 => if (y4.1 + y4.2.1) * 1 ≤ 140737488355328 then (
          some ((y4.2.2.2.1 ++ y4.2.2.2.2.2.1), (0:Int))) else none) (m - (allP l n).length) 0 (by omega) 400 (by omega)
    rw [List.replicate_zero, List.append_nil, Nat.add_zero] at e
    refine e.trans ?_
    dsimp only
    rw [if_pos (by omega)]
  · rw [if_neg h, if_pos (by omega)]
theorem at_Pack' {l : List Int} {n : Nat} (h : l.length = n * 256 ∧ ∀ z ∈ l, z = 0 ∨ z = 1) (hn : n ≤ 1000) {most : Int} (hm : -9223372036854775808 ≤ most ∧ most ≤ 9223372036854775807) : g_ref15_PackHints (l, most, ()) = some (packP l most) := by
  have hM : 1000 ≤ maxLen := by decide
  exact Spec_at (ks := p_ref15_PackHints_ks) (rs := p_ref15_PackHints_rs) (x := (l, most, ())) ⟨⟨⟨n, h.1, by omega⟩, h.2⟩, okInt_i64.2 hm, trivial⟩ trivial
theorem wf_bb {a b : List Int} : wfAll [.sl (.int .u8), .sl (.int .u8)] (a, b, ()) ↔ (a.length ≤ maxLen ∧ ∀ z ∈ a, 0 ≤ z ∧ z ≤ 255) ∧ (b.length ≤ maxLen ∧ ∀ z ∈ b, 0 ≤ z ∧ z ≤ 255) := by simp only [wfAll, wf_bytes, and_true]
theorem q_ref01_Equal : ∀ x r, g_ref01_Equal x = some r → ∃ N, p_ref01_Equal N x = some r := by
  refine Spec_of (ks := p_ref01_Equal_ks) (rs := p_ref01_Equal_rs) fun x hw hq => ⟨0, ?_⟩
  obtain ⟨(a : List Int), (b : List Int), u⟩ := x
  obtain ⟨ha, hb⟩ := wf_bb.1 hw
  unfold p_ref01_Equal
  exact congrArg some (eq_of_bytes ha.2 hb.2)
theorem at_Equal {a b : List Int} (ha : a.length ≤ 1000000 ∧ ∀ z ∈ a, 0 ≤ z ∧ z ≤ 255) (hb : b.length ≤ 1000000 ∧ ∀ z ∈ b, 0 ≤ z ∧ z ≤ 255) : g_ref01_Equal (a, b, ()) = some (decide (a = b)) := by
  have hM : 1000000 ≤ maxLen := by decide
  exact Spec_at (ks := p_ref01_Equal_ks) (rs := p_ref01_Equal_rs) (x := (a, b, ())) (wf_bb.2 ⟨⟨by omega, ha.2⟩, by omega, hb.2⟩) trivial
theorem q_law15_same : ∀ x r, g_law15_same x = some r → ∃ N, p_law15_same N x = some r := by
  refine Spec_of (ks := p_law15_same_ks) (rs := p_law15_same_rs) fun x hw hq => ⟨x.1.length + 1, ?_⟩
  obtain ⟨(a : List Int), (b : List Int), u⟩ := x
  obtain ⟨⟨n, (hl : a.length = n * 256), (hM : n ≤ maxLen)⟩, _⟩ := hw.1
  have hq : a = b := hq
  subst hq
  have en : a.length / 256 = n := by omega
  have hMx : maxLen ≤ 9223372036854775807 := by decide
  unfold p_law15_same
  dsimp only
  rw [en, if_neg (by omega)]
  refine (iter_run (F := p_law15_same_l4_F (a.length + 1)) (s := fun i => (n, n, (n : Int), (i : Int), a.length, a, a.length, a, ())) (y := .inr ()) n ?_ ?_ (a.length + 1) (by omega)).trans ?_
  · intro i hi kn
    unfold p_law15_same_l4_F
    dsimp only
    rw [if_pos (by omega), if_pos (by omega), if_pos (by omega), Int.toNat_natCast, if_pos (by omega), if_pos (by omega), if_pos (by omega), if_pos (by omega), if_neg (by simp), wrap_i64 (by omega) (by omega)]
    rfl
  · intro kn
    unfold p_law15_same_l4_F
    dsimp only
    rw [if_neg (by omega)]
  · rfl
end Go.Ax.TryP
/-! ### Bytes as hints: the walks -/
set_option linter.unusedVariables false
namespace Go.Ax.TryP
open Classical
theorem byteP {b : List Int} (h : ∀ z ∈ b, 0 ≤ z ∧ z ≤ 255) (i : Nat) : 0 ≤ b.getD i 0 ∧ b.getD i 0 ≤ 255 := by
  by_cases hi : i < b.length
  · exact h _ (getD_mem hi)
  · rw [getD_out (by omega)]; omega
abbrev Iu := Int × Nat × Nat × Int × Int × Int × Int × Int × Int × Nat × List Int × Nat × List Int × Unit
abbrev Ou := (Int × Unit) ⊕ (Int × Nat × Nat × Int × Int × Int × Nat × List Int × Nat × List Int × Unit)
theorem un_in {b h : List Int} {n m k a e : Nat} (hb : ∀ z ∈ b, 0 ≤ z ∧ z ≤ 255) (hl : b.length = m + n) (hm : m ≤ 255) (hn : n ≤ 16) (hk : k < n) (he : e ≤ m) {nI : Int} {N : Nat} {β : Type} (K : Ou → Option β) : ∀ j i, i + j = e → a ≤ i → growP b a i → ∀ q, j < q →
    iter (p_dring_UnpackHints_l12_F N) q ((m : Int), b.length, n, (a : Int), (k : Int), (e : Int), (i : Int), nI, (k : Int), b.length, b, n * 256, markP b k a h (i - a), ()) K
    = if growP b a e then K (.inr ((m : Int), b.length, n, (e : Int), nI, (k : Int), b.length, b, n * 256, markP b k a h (e - a), ())) else K (.inl (150, ()))
  | 0, i, hi, ha, hg, q, hq => by
    obtain ⟨q, rfl⟩ : ∃ m, q = m + 1 := ⟨q - 1, by omega⟩
    have hi : i = e := by omega
    subst hi
    rw [if_pos hg]
    simp only [iter]
    unfold p_dring_UnpackHints_l12_F
    dsimp only
    rw [if_neg (by omega)]
  | j + 1, i, hi, ha, hg, q, hq => by
    obtain ⟨q, rfl⟩ : ∃ m, q = m + 1 := ⟨q - 1, by omega⟩
    have b0 := byteP hb i
    have em : (markP b k a h (i - a)).set (k * 256 + (b.getD i 0).toNat) 1 = markP b k a h (i + 1 - a) := by
      rw [show i + 1 - a = (i - a) + 1 by omega, markP, show a + (i - a) = i by omega]
    simp only [iter]
    unfold p_dring_UnpackHints_l12_F
    dsimp only
    rw [if_pos (by omega)]
    by_cases g : (a : Int) < i
    · have ew : IntKind.i64.wrap ((i : Int) - 1) = ((i - 1 : Nat) : Int) := by rw [wrap_i64 (by omega) (by omega)]; omega
      rw [if_pos g, if_pos (by omega), if_pos (by omega), ew, Int.toNat_natCast, Int.toNat_natCast, Int.toNat_natCast, if_pos (by omega), if_pos (by omega), if_pos (by omega), if_pos (by omega)]
      by_cases c : b.getD i 0 ≤ b.getD (i - 1) 0
      · rw [if_pos c, if_neg ?_]
        intro h2
        have := h2 i (by omega) (by omega)
        omega
      · rw [if_neg c, if_pos (by omega), if_pos (by omega), if_pos (by omega), if_pos (by omega), if_pos (by omega), if_pos b0.1, if_pos (by omega), if_pos (by omega), wrap_i64 (by omega) (by omega), em]
        refine un_in (N := N) hb hl hm hn hk he K j (i + 1) (by omega) (by omega) ?_ q (by omega)
        intro i2 h1 h2
        by_cases h3 : i2 = i
        · subst h3; omega
        · exact hg i2 h1 (by omega)
    · rw [if_neg g, if_pos (by omega), if_pos (by omega), Int.toNat_natCast, Int.toNat_natCast, if_pos (by omega), if_pos (by omega), if_pos (by omega), if_pos b0.1, if_pos (by omega), if_pos (by omega), wrap_i64 (by omega) (by omega), em]
      exact un_in (N := N) hb hl hm hn hk he K j (i + 1) (by omega) (by omega) (fun i2 h1 h2 => by omega) q (by omega)
abbrev Ov := (Int × Unit) ⊕ (Int × Nat × Nat × Int × Nat × List Int × Nat × List Int × Unit)
theorem un_out {b h : List Int} {n m : Nat} (hb : ∀ z ∈ b, 0 ≤ z ∧ z ≤ 255) (hl : b.length = m + n) (hm : m ≤ 255) (hn : n ≤ 16) {N : Nat} (hN : 300 < N) {β : Type} (K : Ov → Option β) : ∀ j k, k + j = n → cutP b m k ≤ m → okR b m k → okG b m k → ∀ q, j < q →
    iter (p_dring_UnpackHints_l6_F N) q ((m : Int), b.length, n, (cutP b m k : Int), (n : Int), (k : Int), b.length, b, n * 256, hintP b m h k, ()) K
    = if okR b m n ∧ okG b m n then K (.inr ((m : Int), b.length, n, (cutP b m n : Int), b.length, b, n * 256, hintP b m h n, ())) else K (.inl (150, ()))
  | 0, k, hk, hc, hr, hg, q, hq => by
    obtain ⟨q, rfl⟩ : ∃ m, q = m + 1 := ⟨q - 1, by omega⟩
    have hk : k = n := by omega
    subst hk
    rw [if_pos ⟨hr, hg⟩]
    simp only [iter]
    unfold p_dring_UnpackHints_l6_F
    dsimp only
    rw [if_neg (by omega)]
  | j + 1, k, hk, hc, hr, hg, q, hq => by
    obtain ⟨q, rfl⟩ : ∃ m, q = m + 1 := ⟨q - 1, by omega⟩
    have b0 := byteP hb (m + k)
    have ew : IntKind.i64.wrap ((m : Int) + k) = ((m + k : Nat) : Int) := by rw [wrap_i64 (by omega) (by omega)]; omega
    have ec : b.getD (m + k) 0 = (cutP b m (k + 1) : Int) := by
      show _ = (((b.getD (m + k) 0).toNat : Nat) : Int)
      omega
    simp only [iter]
    unfold p_dring_UnpackHints_l6_F
    dsimp only
    rw [if_pos (by omega), ew, if_pos (by omega), if_pos (by omega), Int.toNat_natCast, if_pos (by omega), wrap_i64 (x := b.getD (m + k) 0) (by omega) (by omega), ec]
    by_cases c1 : (cutP b m (k + 1) : Int) < cutP b m k
    · rw [if_pos c1, if_neg ?_]
      intro h2
      have := h2.1 k (by omega)
      omega
    rw [if_neg c1]
    by_cases c2 : (m : Int) < cutP b m (k + 1)
    · rw [if_pos c2, if_neg ?_]
      intro h2
      have := h2.1 k (by omega)
      omega
    rw [if_neg c2]
    have e0 : hintP b m h k = markP b k (cutP b m k) (hintP b m h k) (cutP b m k - cutP b m k) := by rw [Nat.sub_self]; rfl
    have := un_in (N := N) (b := b) (h := hintP b m h k) (n := n) (m := m) (k := k) (a := cutP b m k) (e := cutP b m (k + 1)) (nI := (n : Int)) hb hl hm hn (by omega) (by omega) (fun y => match y with
        | .inl y1 => (
          K (.inl (y1.1, ())))
        | .inr y2 => (
          iter (p_dring_UnpackHints_l6_F N) q (y2.1, y2.2.1, y2.2.2.1, y2.2.2.2.1, y2.2.2.2.2.1, (IntKind.i64.wrap (y2.2.2.2.2.2.1 + (1:Int))), y2.2.2.2.2.2.2.1, y2.2.2.2.2.2.2.2.1, y2.2.2.2.2.2.2.2.2.1, y2.2.2.2.2.2.2.2.2.2.1, ()) K)) (cutP b m (k + 1) - cutP b m k) (cutP b m k) (by omega) (Nat.le_refl _) (fun i2 h1 h2 => by omega) N (by omega)
    rw [← e0] at this
    refine this.trans ?_
    clear this
    by_cases g : growP b (cutP b m k) (cutP b m (k + 1))
    · rw [if_pos g]
      dsimp only
      rw [wrap_i64 (by omega) (by omega)]
      refine un_out hb hl hm hn hN K j (k + 1) (by omega) (by omega) ?_ ?_ q (by omega)
      · intro k2 h2
        by_cases h3 : k2 = k
        · subst h3; omega
        · exact hr k2 (by omega)
      · intro k2 h2
        by_cases h3 : k2 = k
        · subst h3; exact g
        · exact hg k2 (by omega)
    · rw [if_neg g, if_neg ?_]
      intro h2
      exact g (h2.2 k (by omega))
abbrev Ow := (Int × Unit) ⊕ (Nat × Nat × List Int × Unit)
theorem un_tail {b h : List Int} {n m a : Nat} (hl : b.length = m + n) (hm : m ≤ 255) (ha : a ≤ m) {L : Nat} {N : Nat} {β : Type} (K : Ow → Option β) : ∀ j i, a + i + j = m → (∀ i2, a ≤ i2 → i2 < a + i → b.getD i2 0 = 0) → ∀ q, j < q →
    iter (p_dring_UnpackHints_l20_F N) q (n, a, m - a, L, ((m - a : Nat) : Int), (i : Int), n * 256, h, b.length, b, ()) K
    = if ∀ i2, a ≤ i2 → i2 < m → b.getD i2 0 = 0 then K (.inr (n, n * 256, h, ())) else K (.inl (150, ()))
  | 0, i, hi, hz, q, hq => by
    obtain ⟨q, rfl⟩ : ∃ m, q = m + 1 := ⟨q - 1, by omega⟩
    rw [if_pos (fun i2 h1 h2 => hz i2 h1 (by omega))]
    simp only [iter]
    unfold p_dring_UnpackHints_l20_F
    dsimp only
    rw [if_neg (by omega)]
  | j + 1, i, hi, hz, q, hq => by
    obtain ⟨q, rfl⟩ : ∃ m, q = m + 1 := ⟨q - 1, by omega⟩
    simp only [iter]
    unfold p_dring_UnpackHints_l20_F
    dsimp only
    have ea : addN a i = a + i := addN_eq a i
    rw [if_pos (by omega), if_pos (by omega), if_pos (by omega), Int.toNat_natCast, ea, if_pos (by omega), wrap_i64 (by omega) (by omega)]
    by_cases c : b.getD (a + i) 0 ≠ 0
    · rw [if_pos c, if_neg ?_]
      exact fun h2 => c (h2 (a + i) (by omega) (by omega))
    · rw [if_neg c]
      refine un_tail (N := N) hl hm ha K j (i + 1) (by omega) ?_ q (by omega)
      intro i2 h1 h2
      by_cases h3 : i2 = a + i
      · subst h3; omega
      · exact hz i2 h1 (by omega)
theorem cut_le {b : List Int} {m : Nat} : ∀ {n : Nat}, okR b m n → cutP b m n ≤ m
  | 0, _ => Nat.zero_le _
  | n + 1, h => (h n (by omega)).2
theorem wf_nmb {n m : Int} {b : List Int} : wfAll [.int .i64, .int .i64, .sl (.int .u8)] (n, m, b, ()) ↔ (-9223372036854775808 ≤ n ∧ n ≤ 9223372036854775807) ∧ (-9223372036854775808 ≤ m ∧ m ≤ 9223372036854775807) ∧ (b.length ≤ maxLen ∧ ∀ z ∈ b, 0 ≤ z ∧ z ≤ 255) := by
  have : Kd.wf (.int .i64) n ↔ -9223372036854775808 ≤ n ∧ n ≤ 9223372036854775807 := okInt_i64
  have h2 : Kd.wf (.int .i64) m ↔ -9223372036854775808 ≤ m ∧ m ≤ 9223372036854775807 := okInt_i64
  simp only [wfAll, wf_bytes, and_true, this, h2]
theorem q_dring_UnpackHints : ∀ x r, g_dring_UnpackHints x = some r → ∃ N, p_dring_UnpackHints N x = some r := by
  refine Spec_of (ks := p_dring_UnpackHints_ks) (rs := p_dring_UnpackHints_rs) fun x hw hq => ⟨400, ?_⟩
  obtain ⟨(n : Int), (most : Int), (b : List Int), u⟩ := x
  obtain ⟨h1, h2, hb⟩ := wf_nmb.1 hw
  unfold p_dring_UnpackHints unpackP
  dsimp only
  by_cases c1 : n < 0
  · rw [if_pos c1, if_pos (.inl (.inl c1))]
  rw [if_neg c1]
  by_cases c2 : 16 < n
  · rw [if_pos c2, if_pos (.inl (.inr c2))]
  rw [if_neg c2]
  by_cases c3 : most < 0
  · rw [if_pos c3, if_pos (.inr (.inl (.inl c3)))]
  rw [if_neg c3]
  by_cases c4 : 255 < most
  · rw [if_pos c4, if_pos (.inr (.inl (.inr c4)))]
  rw [if_neg c4, wrap_i64 (by omega) (by omega)]
  by_cases c5 : (b.length : Int) ≠ most + n
  · rw [if_pos c5, if_pos (.inr (.inr c5))]
  rw [if_neg c5, if_neg (by omega : ¬((n < 0 ∨ 16 < n) ∨ (most < 0 ∨ 255 < most) ∨ (b.length : Int) ≠ most + n)), if_pos (by omega), if_pos rfl, if_pos (by omega)]
  obtain ⟨m, rfl⟩ : ∃ m : Nat, most = m := ⟨most.toNat, by omega⟩
  obtain ⟨n, rfl⟩ : ∃ m : Nat, n = m := ⟨n.toNat, by omega⟩
  rw [Int.toNat_natCast, Int.toNat_natCast]
  have hl : b.length = m + n := by omega
  refine (un_out hb.2 hl (by omega) (by omega) (N := 400) (by omega) _ n 0 (by omega) (Nat.zero_le _) (fun k hk => by omega) (fun k hk => by omega) 400 (by omega)).trans ?_
  by_cases h : okR b m n ∧ okG b m n
  · have hc := cut_le h.1
    rw [if_pos h]
    dsimp only
    rw [if_pos (by omega), if_pos (by omega), if_pos (by omega), Int.toNat_natCast, Int.toNat_natCast, if_pos (by omega)]
    have es : subN m (cutP b m n) = m - cutP b m n := subN_eq _ _
    rw [es]
    refine (un_tail (N := 400) hl (by omega) hc _ (m - cutP b m n) 0 (by omega) (fun i2 h1 h2 => by omega) 400 (by omega)).trans ?_
    by_cases hz : ∀ i2, cutP b m n ≤ i2 → i2 < m → b.getD i2 0 = 0
    · rw [if_pos hz, if_pos ⟨h.1, h.2, hz⟩]
    · rw [if_neg hz, if_neg (fun g => hz g.2.2)]
  · rw [if_neg h, if_neg (fun g => h ⟨g.1, g.2.1⟩)]
/-! the reference -/
abbrev Oru := Int × Nat × Nat × Int × Int × Int × Nat × List Int × Nat × List Int × Unit
theorem ru_in {b h : List Int} {n m k a e : Nat} (hb : ∀ z ∈ b, 0 ≤ z ∧ z ≤ 255) (hl : b.length = m + n) (hm : m ≤ 255) (hn : n ≤ 16) (hk : k < n) (he : e ≤ m) {nI : Int} {N : Nat} {β : Type} (K : Oru → Option β) : ∀ j i, i + j = e → a ≤ i → ∀ q, j < q →
    iter (p_ref15_UnpackHints_l11_F N) q ((m : Int), b.length, n, (i : Int), (k : Int), (e : Int), nI, (k : Int), b.length, b, n * 256, markP b k a h (i - a), ()) K
    = K ((m : Int), b.length, n, (e : Int), nI, (k : Int), b.length, b, n * 256, markP b k a h (e - a), ())
  | 0, i, hi, ha, q, hq => by
    obtain ⟨q, rfl⟩ : ∃ m, q = m + 1 := ⟨q - 1, by omega⟩
    have hi : i = e := by omega
    subst hi
    simp only [iter]
    unfold p_ref15_UnpackHints_l11_F
    dsimp only
    rw [if_neg (by omega)]
  | j + 1, i, hi, ha, q, hq => by
    obtain ⟨q, rfl⟩ : ∃ m, q = m + 1 := ⟨q - 1, by omega⟩
    have b0 := byteP hb i
    have em : (markP b k a h (i - a)).set (k * 256 + (b.getD i 0).toNat) 1 = markP b k a h (i + 1 - a) := by
      rw [show i + 1 - a = (i - a) + 1 by omega, markP, show a + (i - a) = i by omega]
    simp only [iter]
    unfold p_ref15_UnpackHints_l11_F
    dsimp only
    rw [if_pos (by omega), if_pos (by omega), if_pos (by omega), Int.toNat_natCast, Int.toNat_natCast, if_pos (by omega), if_pos (by omega), if_pos (by omega), if_pos b0.1, if_pos (by omega), if_pos (by omega), wrap_i64 (by omega) (by omega), em]
    exact ru_in (N := N) hb hl hm hn hk he K j (i + 1) (by omega) (by omega) q (by omega)
abbrev Orv := (Int × Unit) ⊕ (Int × Nat × Nat × Nat × List Int × Nat × List Int × Unit)
theorem ru_out {b h : List Int} {n m : Nat} (hb : ∀ z ∈ b, 0 ≤ z ∧ z ≤ 255) (hl : b.length = m + n) (hm : m ≤ 255) (hn : n ≤ 16) {N : Nat} (hN : 300 < N) {β : Type} (K : Orv → Option β) : ∀ j k, k + j = n → cutP b m k ≤ m → okR b m k → ∀ q, j < q →
    iter (p_ref15_UnpackHints_l6_F N) q ((m : Int), b.length, n, (cutP b m k : Int), (n : Int), (k : Int), b.length, b, n * 256, hintP b m h k, ()) K
    = if okR b m n then K (.inr ((m : Int), b.length, n, b.length, b, n * 256, hintP b m h n, ())) else K (.inl (150, ()))
  | 0, k, hk, hc, hr, q, hq => by
    obtain ⟨q, rfl⟩ : ∃ m, q = m + 1 := ⟨q - 1, by omega⟩
    have hk : k = n := by omega
    subst hk
    rw [if_pos hr]
    simp only [iter]
    unfold p_ref15_UnpackHints_l6_F
    dsimp only
    rw [if_neg (by omega)]
  | j + 1, k, hk, hc, hr, q, hq => by
    obtain ⟨q, rfl⟩ : ∃ m, q = m + 1 := ⟨q - 1, by omega⟩
    have b0 := byteP hb (m + k)
    have ew : IntKind.i64.wrap ((m : Int) + k) = ((m + k : Nat) : Int) := by rw [wrap_i64 (by omega) (by omega)]; omega
    have ec : b.getD (m + k) 0 = (cutP b m (k + 1) : Int) := by
      show _ = (((b.getD (m + k) 0).toNat : Nat) : Int)
      omega
    simp only [iter]
    unfold p_ref15_UnpackHints_l6_F
    dsimp only
    rw [if_pos (by omega), ew, if_pos (by omega), if_pos (by omega), Int.toNat_natCast, if_pos (by omega), wrap_i64 (x := b.getD (m + k) 0) (by omega) (by omega), ec]
    by_cases c1 : (cutP b m (k + 1) : Int) < cutP b m k
    · rw [if_pos c1, if_neg ?_]
      intro h2
      have := h2 k (by omega)
      omega
    rw [if_neg c1]
    by_cases c2 : (m : Int) < cutP b m (k + 1)
    · rw [if_pos c2, if_neg ?_]
      intro h2
      have := h2 k (by omega)
      omega
    rw [if_neg c2]
    have e0 : hintP b m h k = markP b k (cutP b m k) (hintP b m h k) (cutP b m k - cutP b m k) := by rw [Nat.sub_self]; rfl
    have := ru_in (N := N) (b := b) (h := hintP b m h k) (n := n) (m := m) (k := k) (a := cutP b m k) (e := cutP b m (k + 1)) (nI := (n : Int)) hb hl hm hn (by omega) (by omega) (fun y1 =>
        iter (p_ref15_UnpackHints_l6_F N) q (y1.1, y1.2.1, y1.2.2.1, y1.2.2.2.1, y1.2.2.2.2.1, (IntKind.i64.wrap (y1.2.2.2.2.2.1 + (1:Int))), y1.2.2.2.2.2.2.1, y1.2.2.2.2.2.2.2.1, y1.2.2.2.2.2.2.2.2.1, y1.2.2.2.2.2.2.2.2.2.1, ()) K) (cutP b m (k + 1) - cutP b m k) (cutP b m k) (by omega) (Nat.le_refl _) N (by omega)
    rw [← e0] at this
    refine this.trans ?_
    clear this
    dsimp only
    rw [wrap_i64 (by omega) (by omega)]
    refine ru_out hb hl hm hn hN K j (k + 1) (by omega) (by omega) ?_ q (by omega)
    intro k2 h2
    by_cases h3 : k2 = k
    · subst h3; omega
    · exact hr k2 (by omega)
end Go.Ax.TryP
/-! ### Bytes as hints: what is packed again is the bytes just if places grow and the rest is zero -/
set_option linter.unusedVariables false
namespace Go.Ax.TryP
theorem markP_len (b : List Int) (k a : Nat) (h : List Int) : ∀ j, (markP b k a h j).length = h.length
  | 0 => rfl
  | j + 1 => by rw [markP, List.length_set, markP_len b k a h j]
theorem hintP_len (b : List Int) (m : Nat) (h : List Int) : ∀ k, (hintP b m h k).length = h.length
  | 0 => rfl
  | k + 1 => by rw [hintP, markP_len, hintP_len b m h k]
theorem markP_01 {b : List Int} {k a : Nat} {h : List Int} (h0 : ∀ i, h.getD i 0 = 0 ∨ h.getD i 0 = 1) : ∀ j i, (markP b k a h j).getD i 0 = 0 ∨ (markP b k a h j).getD i 0 = 1
  | 0, i => h0 i
  | j + 1, i => by
    by_cases e : k * 256 + (b.getD (a + j) 0).toNat = i ∧ i < h.length
    · rw [markP, e.1, getD_set_eq (by rw [markP_len]; exact e.2)]
      exact .inr rfl
    · by_cases e2 : k * 256 + (b.getD (a + j) 0).toNat = i
      · rw [getD_out (by rw [markP_len]; omega)]
        exact .inl rfl
      · rw [markP, getD_set_ne e2]
        exact markP_01 h0 j i
theorem hintP_01 {b : List Int} {m : Nat} {h : List Int} (h0 : ∀ i, h.getD i 0 = 0 ∨ h.getD i 0 = 1) : ∀ k i, (hintP b m h k).getD i 0 = 0 ∨ (hintP b m h k).getD i 0 = 1
  | 0, i => h0 i
  | k + 1, i => by rw [hintP]; exact markP_01 (hintP_01 h0 k) _ i
/-- The marks of one stretch. -/
theorem markP_get {b : List Int} (hb : ∀ z ∈ b, 0 ≤ z ∧ z ≤ 255) {k a : Nat} {h : List Int} (hk : k * 256 + 256 ≤ h.length) : ∀ j i, i < 256 → ((markP b k a h j).getD (k * 256 + i) 0 ≠ 0 ↔ h.getD (k * 256 + i) 0 ≠ 0 ∨ ∃ t, t < j ∧ b.getD (a + t) 0 = i)
  | 0, i, hi => ⟨.inl, fun h => h.elim id fun ⟨t, ht, _⟩ => by omega⟩
  | j + 1, i, hi => by
    have b0 := byteP hb (a + j)
    have ih := markP_get hb hk (a := a) j i hi
    by_cases e : k * 256 + (b.getD (a + j) 0).toNat = k * 256 + i
    · rw [markP, e, getD_set_eq (by rw [markP_len]; omega)]
      exact ⟨fun _ => .inr ⟨j, by omega, by omega⟩, fun _ => by decide⟩
    · rw [markP, getD_set_ne e, ih]
      constructor
      · rintro (h1 | ⟨t, ht, h1⟩)
        · exact .inl h1
        · exact .inr ⟨t, by omega, h1⟩
      · rintro (h1 | ⟨t, ht, h1⟩)
        · exact .inl h1
        · by_cases h2 : t = j
          · subst h2; omega
          · exact .inr ⟨t, by omega, h1⟩
theorem markP_other {b : List Int} (hb : ∀ z ∈ b, 0 ≤ z ∧ z ≤ 255) {k a : Nat} {h : List Int} {k2 i : Nat} (hk : k2 ≠ k) (hi : i < 256) : ∀ j, (markP b k a h j).getD (k2 * 256 + i) 0 = h.getD (k2 * 256 + i) 0
  | 0 => rfl
  | j + 1 => by
    have b0 := byteP hb (a + j)
    rw [markP, getD_set_ne (by omega), markP_other hb hk hi j]
/-- The marks of all stretches. -/
theorem hintP_get {b : List Int} (hb : ∀ z ∈ b, 0 ≤ z ∧ z ≤ 255) {m n : Nat} : ∀ k, k ≤ n → ∀ k2 i, k2 < n → i < 256 → ((hintP b m (List.replicate (n * 256) 0) k).getD (k2 * 256 + i) 0 ≠ 0 ↔ k2 < k ∧ ∃ t, t < cutP b m (k2 + 1) - cutP b m k2 ∧ b.getD (cutP b m k2 + t) 0 = i)
  | 0, _, k2, i, h2, hi => ⟨fun h => absurd (getD_replicate (n * 256) _) h, fun h => by omega⟩
  | k + 1, hk, k2, i, h2, hi => by
    have ih := hintP_get hb (m := m) k (by omega) k2 i h2 hi
    rw [hintP]
    by_cases e : k2 = k
    · subst e
      rw [markP_get hb (by rw [hintP_len, List.length_replicate]; omega) _ i hi, ih]
      constructor
      · rintro (h1 | h1)
        · omega
        · exact ⟨by omega, h1⟩
      · exact fun h1 => .inr h1.2
    · rw [markP_other hb e hi, ih]
      constructor
      · exact fun h1 => ⟨by omega, h1.2⟩
      · exact fun h1 => ⟨by omega, h1.2⟩
/-- Rows of numbers that grow. -/
def incr (s : List Int) : Prop := s.Pairwise (· < ·)
theorem incr_filter {s : List Int} (hs : incr s) (t : Int) : s.filter (fun z => decide (z < t + 1)) = s.filter (fun z => decide (z < t)) ++ (if t ∈ s then [t] else []) := by
  induction s with
  | nil => simp
  | cons x s ih =>
    obtain ⟨h1, h2⟩ := List.pairwise_cons.1 hs
    have ih := ih h2
    by_cases c : x < t
    · rw [List.filter_cons_of_pos (by simp; omega), List.filter_cons_of_pos (by simpa using c), ih, List.cons_append]
      have : (t ∈ x :: s) ↔ t ∈ s := by
        rw [List.mem_cons]
        exact ⟨fun h => h.elim (fun h => by omega) id, .inr⟩
      by_cases g : t ∈ s
      · rw [if_pos g, if_pos (this.2 g)]
      · rw [if_neg g, if_neg (fun h => g (this.1 h))]
    · have none1 : ∀ u, u ≤ t → s.filter (fun z => decide (z < u + 1)) = [] := fun u hu => List.filter_eq_nil_iff.2 fun z hz => by have := h1 z hz; simp; omega
      have none2 : (x :: s).filter (fun z => decide (z < t)) = [] := List.filter_eq_nil_iff.2 fun z hz => by
        rcases List.mem_cons.1 hz with e | e
        · subst e; simp; omega
        · have := h1 z e; simp; omega
      rw [none2, List.nil_append]
      by_cases d : x = t
      · subst d
        rw [List.filter_cons_of_pos (by simp; omega), none1 x (Int.le_refl _), if_pos (List.mem_cons_self ..)]
      · rw [List.filter_cons_of_neg (by simp; omega), none1 t (Int.le_refl _), if_neg ?_]
        intro h
        rcases List.mem_cons.1 h with e | e
        · omega
        · have := h1 t e; omega
theorem accP_incr {f : Nat → List Int} {s : List Int} (hs : incr s) (hb : ∀ z ∈ s, 0 ≤ z) {n : Nat} (hf : ∀ i, i < n → f i = if (i : Int) ∈ s then [(i : Int)] else []) : ∀ t, t ≤ n → accP f t = s.filter (fun z => decide (z < (t : Int)))
  | 0, _ => by
    rw [accP]
    exact (List.filter_eq_nil_iff.2 fun z hz => by have := hb z hz; simp; omega).symm
  | t + 1, h => by
    rw [accP, accP_incr hs hb hf t (by omega), hf t (by omega), Int.natCast_add]
    exact (incr_filter hs t).symm
theorem accP_is {f : Nat → List Int} {s : List Int} (hs : incr s) {n : Nat} (hb : ∀ z ∈ s, 0 ≤ z ∧ z < n) (hf : ∀ i, i < n → f i = if (i : Int) ∈ s then [(i : Int)] else []) : accP f n = s := by
  rw [accP_incr hs (fun z hz => (hb z hz).1) hf n (Nat.le_refl _)]
  exact List.filter_eq_self.2 fun z hz => by simpa using (hb z hz).2
/-- A row's places grow. -/
theorem rowP_incr (l : List Int) (k : Nat) : ∀ t, incr (accP (mkP l k) t) ∧ ∀ z ∈ accP (mkP l k) t, 0 ≤ z ∧ z < t
  | 0 => ⟨List.Pairwise.nil, fun z hz => absurd hz (by simp [accP])⟩
  | t + 1 => by
    obtain ⟨h1, h2⟩ := rowP_incr l k t
    rw [accP]
    unfold mkP
    split
    · refine ⟨List.pairwise_append.2 ⟨h1, List.pairwise_singleton .., fun a ha c hc => ?_⟩, fun z hz => ?_⟩
      · rw [List.mem_singleton] at hc
        have := h2 a ha
        omega
      · rcases List.mem_append.1 hz with e | e
        · have := h2 z e; omega
        · rw [List.mem_singleton] at e; omega
    · rw [List.append_nil]
      exact ⟨h1, fun z hz => by have := h2 z hz; omega⟩
theorem rowP_ok (l : List Int) (k : Nat) : incr (rowP l k) ∧ ∀ z ∈ rowP l k, 0 ≤ z ∧ z < 256 := rowP_incr l k 256
theorem incr_at {s : List Int} (hs : incr s) {i j : Nat} (h : i < j) (hj : j < s.length) : s.getD i 0 < s.getD j 0 := by
  have := List.pairwise_iff_getElem.1 hs i j (by omega) hj h
  rw [List.getD_eq_getElem?_getD, List.getD_eq_getElem?_getD, List.getElem?_eq_getElem (by omega), List.getElem?_eq_getElem hj]
  exact this
/-- A stretch of the bytes. -/
def strP (b : List Int) (a e : Nat) : List Int := (b.drop a).take (e - a)
theorem strP_len {b : List Int} {a e : Nat} (h : e ≤ b.length) : (strP b a e).length = e - a := by unfold strP; rw [List.length_take, List.length_drop]; omega
theorem strP_get {b : List Int} {a e t : Nat} (h : t < e - a) : (strP b a e).getD t 0 = b.getD (a + t) 0 := by
  unfold strP
  rw [List.getD_eq_getElem?_getD, List.getElem?_take_of_lt h, List.getElem?_drop, ← List.getD_eq_getElem?_getD]
theorem strP_mem {b : List Int} {a e : Nat} (h : e ≤ b.length) {z : Int} : z ∈ strP b a e ↔ ∃ t, t < e - a ∧ b.getD (a + t) 0 = z := by
  have hl := strP_len (b := b) (a := a) h
  constructor
  · intro hz
    obtain ⟨t, ht, g⟩ := List.mem_iff_getElem.1 hz
    refine ⟨t, by omega, ?_⟩
    rw [← strP_get (e := e) (by omega), List.getD_eq_getElem?_getD, List.getElem?_eq_getElem ht]
    exact g
  · rintro ⟨t, ht, g⟩
    rw [← g, ← strP_get ht]
    exact getD_mem (by omega)
theorem strP_incr {b : List Int} {a e : Nat} (h : e ≤ b.length) (hg : growP b a e) : incr (strP b a e) := by
  have hl := strP_len (b := b) (a := a) h
  have key : ∀ d i, i + 1 + d < e - a → (strP b a e).getD i 0 < (strP b a e).getD (i + 1 + d) 0 := by
    intro d
    induction d with
    | zero =>
      intro i hi
      have := hg (a + i + 1) (by omega) (by omega)
      rw [strP_get (by omega), strP_get (by omega)]
      exact this
    | succ d ih =>
      intro i hi
      have h1 := ih i (by omega)
      have h2 := hg (a + i + 1 + d + 1) (by omega) (by omega)
      rw [strP_get (by omega), strP_get (by omega)] at h1 ⊢
      rw [show a + i + 1 + d + 1 - 1 = a + (i + 1 + d) by omega, show a + i + 1 + d + 1 = a + (i + 1 + (d + 1)) by omega] at h2
      omega
  refine List.pairwise_iff_getElem.2 fun i j hi hj h => ?_
  have := key (j - i - 1) i (by omega)
  rw [show i + 1 + (j - i - 1) = j by omega, List.getD_eq_getElem?_getD, List.getD_eq_getElem?_getD, List.getElem?_eq_getElem hi, List.getElem?_eq_getElem hj] at this
  exact this
end Go.Ax.TryP
/-! ### Bytes as hints: the reference; the law -/
set_option linter.unusedVariables false
namespace Go.Ax.TryP
open Classical
theorem app_l {a b : List Int} {i : Nat} (h : i < a.length) : (a ++ b).getD i 0 = a.getD i 0 := by
  rw [List.getD_eq_getElem?_getD, List.getElem?_append_left h, ← List.getD_eq_getElem?_getD]
theorem app_r {a b : List Int} {i : Nat} (h : a.length ≤ i) : (a ++ b).getD i 0 = b.getD (i - a.length) 0 := by
  rw [List.getD_eq_getElem?_getD, List.getElem?_append_right h, ← List.getD_eq_getElem?_getD]
theorem outP_1 {m : Nat} {P E : List Int} {i : Nat} (h : i < P.length) : (outP m P E).getD i 0 = P.getD i 0 := by
  unfold outP
  rw [List.append_assoc, app_l h]
theorem outP_2 {m : Nat} {P E : List Int} {i : Nat} (h : P.length ≤ i) (hm : i < m) : (outP m P E).getD i 0 = 0 := by
  unfold outP
  rw [app_l (by rw [List.length_append, List.length_replicate]; omega), app_r h, getD_replicate]
theorem outP_3 {m : Nat} {P E : List Int} (hp : P.length ≤ m) (k : Nat) : (outP m P E).getD (m + k) 0 = E.getD k 0 := by
  unfold outP
  have hl : (P ++ List.replicate (m - P.length) 0).length = m := by rw [List.length_append, List.length_replicate]; omega
  rw [app_r (by omega), hl, show m + k - m = k by omega]
theorem outP_len {m : Nat} {P E : List Int} (hp : P.length ≤ m) : (outP m P E).length = m + E.length := by
  unfold outP
  rw [List.length_append, List.length_append, List.length_replicate]
  omega
theorem ext_getD {a b : List Int} (h : a.length = b.length) (hg : ∀ i, i < b.length → a.getD i 0 = b.getD i 0) : a = b := rows.ext h rfl hg
section
variable {b : List Int} {m n : Nat}
abbrev hint0 (b : List Int) (m n : Nat) : List Int := hintP b m (List.replicate (n * 256) 0) n
theorem hint0_mk (hb : ∀ z ∈ b, 0 ≤ z ∧ z ≤ 255) (hl : b.length = m + n) (hr : okR b m n) {k : Nat} (hk : k < n) {i : Nat} (hi : i < 256) : mkP (hint0 b m n) k i = if (i : Int) ∈ strP b (cutP b m k) (cutP b m (k + 1)) then [(i : Int)] else [] := by
  have h1 := hintP_get hb (m := m) (n := n) n (Nat.le_refl n) k i hk hi
  have h2 := strP_mem (b := b) (a := cutP b m k) (e := cutP b m (k + 1)) (by have := hr k hk; omega) (z := (i : Int))
  unfold mkP
  by_cases h : (i : Int) ∈ strP b (cutP b m k) (cutP b m (k + 1))
  · rw [if_pos h, if_pos (h1.2 ⟨hk, h2.1 h⟩)]
  · rw [if_neg h, if_neg (fun g => h (h2.2 (h1.1 g).2))]
theorem strP_b (hb : ∀ z ∈ b, 0 ≤ z ∧ z ≤ 255) (a e : Nat) : ∀ z ∈ strP b a e, 0 ≤ z ∧ z < (256 : Nat) := fun z hz => by
  have := hb z (List.mem_of_mem_drop (List.mem_of_mem_take hz))
  omega
theorem grow_all (hb : ∀ z ∈ b, 0 ≤ z ∧ z ≤ 255) (hl : b.length = m + n) (hr : okR b m n) (hg : okG b m n) : ∀ k, k ≤ n → allP (hint0 b m n) k = b.take (cutP b m k)
  | 0, _ => rfl
  | k + 1, hk => by
    have hrk := hr k (by omega)
    have e : rowP (hint0 b m n) k = strP b (cutP b m k) (cutP b m (k + 1)) :=
      accP_is (strP_incr (by omega) (hg k (by omega))) (strP_b hb _ _) fun i hi => hint0_mk hb hl hr (by omega) hi
    have := grow_all hb hl hr hg k (by omega)
    show allP (hint0 b m n) k ++ rowP (hint0 b m n) k = _
    rw [this, e]
    unfold strP
    rw [← List.take_add, show cutP b m k + (cutP b m (k + 1) - cutP b m k) = cutP b m (k + 1) by omega]
theorem pack_back (hb : ∀ z ∈ b, 0 ≤ z ∧ z ≤ 255) (hl : b.length = m + n) (hm : m ≤ 255) (hn : n ≤ 16) (hr : okR b m n) : packP (hint0 b m n) m = (b, 0) ↔ okG b m n ∧ okZ b m n := by
  have hlen : (hint0 b m n).length / 256 = n := by rw [hintP_len, List.length_replicate]; omega
  have hcn := cut_le hr
  unfold packP
  rw [hlen, if_neg (by omega), Int.toNat_natCast]
  constructor
  · intro h
    by_cases hlong : (m : Int) < (allP (hint0 b m n) n).length
    · rw [if_pos hlong] at h
      have h3 : (3 : Int) = 0 := congrArg Prod.snd h
      exact absurd h3 (by decide)
    rw [if_neg hlong] at h
    have hP : (allP (hint0 b m n) n).length ≤ m := by omega
    have hbe : outP m (allP (hint0 b m n) n) ((List.range n).map (endP (hint0 b m n))) = b := congrArg Prod.fst h
    have hgt : ∀ i, b.getD i 0 = (outP m (allP (hint0 b m n) n) ((List.range n).map (endP (hint0 b m n)))).getD i 0 := fun i => by rw [hbe]
    have hc : ∀ k, k ≤ n → cutP b m k = (allP (hint0 b m n) k).length := fun k hk => by
      cases k with
      | zero => rfl
      | succ k =>
        show (b.getD (m + k) 0).toNat = _
        rw [hgt, outP_3 hP, map_range_getD (by omega)]
        exact Int.toNat_natCast _
    constructor
    · intro k hk i h1 h2
      have e1 := hc k (by omega)
      have e2 := hc (k + 1) (by omega)
      obtain ⟨r, er⟩ := accP_pre (rowP (hint0 b m n)) (k + 1) (n - (k + 1))
      rw [show k + 1 + (n - (k + 1)) = n by omega] at er
      have e3 : allP (hint0 b m n) n = allP (hint0 b m n) (k + 1) ++ r := er
      have e4 : allP (hint0 b m n) (k + 1) = allP (hint0 b m n) k ++ rowP (hint0 b m n) k := rfl
      have el : (allP (hint0 b m n) (k + 1)).length = (allP (hint0 b m n) k).length + (rowP (hint0 b m n) k).length := by rw [e4, List.length_append]
      have eg : ∀ j, cutP b m k ≤ j → j < cutP b m (k + 1) → b.getD j 0 = (rowP (hint0 b m n) k).getD (j - cutP b m k) 0 := fun j h3 h4 => by
        have el3 : (allP (hint0 b m n) n).length = (allP (hint0 b m n) (k + 1)).length + r.length := by rw [e3, List.length_append]
        rw [hgt, outP_1 (by omega), e3, app_l (by omega), e4, app_r (by omega), e1]
      rw [eg (i - 1) (by omega) (by omega), eg i (by omega) (by omega)]
      exact incr_at (rowP_ok _ _).1 (by omega) (by omega)
    · intro j h1 h2
      have e1 := hc n (Nat.le_refl n)
      rw [hgt, outP_2 (by omega) h2]
  · rintro ⟨hg, hz⟩
    have ha := grow_all hb hl hr hg n (Nat.le_refl n)
    have hal : ∀ k, k ≤ n → (allP (hint0 b m n) k).length = cutP b m k := fun k hk => by
      rw [grow_all hb hl hr hg k hk, List.length_take]
      have : cutP b m k ≤ m := cut_le (fun k2 h2 => hr k2 (by omega))
      omega
    have hP : (allP (hint0 b m n) n).length ≤ m := by rw [hal n (Nat.le_refl n)]; exact hcn
    rw [if_neg (by omega)]
    have e : outP m (allP (hint0 b m n) n) ((List.range n).map (endP (hint0 b m n))) = b := by
      refine ext_getD (by rw [outP_len hP, List.length_map, List.length_range, hl]) fun i hi => ?_
      have haln := hal n (Nat.le_refl n)
      by_cases c1 : i < cutP b m n
      · rw [outP_1 (by omega), ha, List.getD_eq_getElem?_getD, List.getElem?_take_of_lt c1, ← List.getD_eq_getElem?_getD]
      by_cases c2 : i < m
      · rw [outP_2 (by omega) c2, hz i (by omega) c2]
      obtain ⟨k, rfl⟩ : ∃ k, i = m + k := ⟨i - m, by omega⟩
      have b0 := byteP hb (m + k)
      rw [outP_3 hP, map_range_getD (by omega)]
      show ((allP (hint0 b m n) (k + 1)).length : Int) = _
      rw [hal (k + 1) (by omega)]
      show (((b.getD (m + k) 0).toNat : Nat) : Int) = _
      omega
    exact congrArg (fun z => (z, (0 : Int))) e
end
theorem packP_b {l : List Int} {m : Int} : (packP l m).1.length ≤ 1000 ∧ ∀ z ∈ (packP l m).1, 0 ≤ z ∧ z ≤ 255 := by
  unfold packP
  by_cases h1 : (l.length / 256 > 16 ∨ m < 0) ∨ 255 < m
  · rw [if_pos h1]
    exact ⟨by decide, fun z hz => absurd hz (by simp)⟩
  rw [if_neg h1]
  by_cases h2 : m < ((allP l (l.length / 256)).length : Int)
  · rw [if_pos h2]
    exact ⟨by decide, fun z hz => absurd hz (by simp)⟩
  rw [if_neg h2]
  have hall : ∀ n, ∀ z ∈ allP l n, 0 ≤ z ∧ z ≤ 255 := fun n => by
    induction n with
    | zero => exact fun z hz => absurd hz (by simp [allP, accP])
    | succ n ih =>
      intro z hz
      rcases List.mem_append.1 hz with e | e
      · exact ih z e
      · have := (rowP_ok l n).2 z e
        omega
  refine ⟨?_, fun z hz => ?_⟩
  · simp only [List.length_append, List.length_replicate, List.length_map, List.length_range]
    omega
  · rcases List.mem_append.1 hz with e | e
    · rcases List.mem_append.1 e with e | e
      · exact hall _ z e
      · rw [(List.mem_replicate.1 e).2]; omega
    · obtain ⟨k, hk, rfl⟩ := List.mem_map.1 e
      have hk := List.mem_range.1 hk
      have := accP_le (rowP l) (show k + 1 ≤ l.length / 256 by omega)
      unfold endP
      unfold allP at h2 ⊢
      omega
theorem q_ref15_UnpackHints : ∀ x r, g_ref15_UnpackHints x = some r → ∃ N, p_ref15_UnpackHints N x = some r := by
  refine Spec_of (ks := p_ref15_UnpackHints_ks) (rs := p_ref15_UnpackHints_rs) fun x hw hq => ⟨400, ?_⟩
  obtain ⟨(n : Int), (most : Int), (b : List Int), u⟩ := x
  obtain ⟨h1, h2, hb⟩ := wf_nmb.1 hw
  unfold p_ref15_UnpackHints unpackP
  dsimp only
  by_cases c1 : n < 0
  · rw [if_pos c1, if_pos (.inl (.inl c1))]
  rw [if_neg c1]
  by_cases c2 : 16 < n
  · rw [if_pos c2, if_pos (.inl (.inr c2))]
  rw [if_neg c2]
  by_cases c3 : most < 0
  · rw [if_pos c3, if_pos (.inr (.inl (.inl c3)))]
  rw [if_neg c3]
  by_cases c4 : 255 < most
  · rw [if_pos c4, if_pos (.inr (.inl (.inr c4)))]
  rw [if_neg c4, wrap_i64 (by omega) (by omega)]
  by_cases c5 : (b.length : Int) ≠ most + n
  · rw [if_pos c5, if_pos (.inr (.inr c5))]
  rw [if_neg c5, if_neg (by omega : ¬((n < 0 ∨ 16 < n) ∨ (most < 0 ∨ 255 < most) ∨ (b.length : Int) ≠ most + n)), if_pos (by omega), if_pos rfl, if_pos (by omega)]
  obtain ⟨m, rfl⟩ : ∃ m : Nat, most = m := ⟨most.toNat, by omega⟩
  obtain ⟨n, rfl⟩ : ∃ m : Nat, n = m := ⟨n.toNat, by omega⟩
  rw [Int.toNat_natCast, Int.toNat_natCast]
  have hl : b.length = m + n := by omega
  refine (ru_out hb.2 hl (by omega) (by omega) (N := 400) (by omega) _ n 0 (by omega) (Nat.zero_le _) (fun k hk => by omega) 400 (by omega)).trans ?_
  by_cases h : okR b m n
  · rw [if_pos h]
    dsimp only
    have hh : (hintP b m (List.replicate (n * 256) 0) n).length = n * 256 ∧ ∀ z ∈ hintP b m (List.replicate (n * 256) 0) n, z = 0 ∨ z = 1 := by
      refine ⟨by rw [hintP_len, List.length_replicate], fun z hz => ?_⟩
      obtain ⟨i, hi, rfl⟩ := List.mem_iff_getElem.1 hz
      have := hintP_01 (b := b) (m := m) (h := List.replicate (n * 256) 0) (fun i => .inl (getD_replicate _ i)) n i
      rwa [List.getD_eq_getElem?_getD, List.getElem?_eq_getElem hi] at this
    rw [at_Pack' (n := n) hh (by omega) (by omega), Option.bind_some]
    have hpb : packP (hintP b m (List.replicate (n * 256) 0) n) m = (b, 0) ↔ okG b m n ∧ okZ b m n := pack_back hb.2 hl (by omega) (by omega) h
    have hpl := packP_b (l := hintP b m (List.replicate (n * 256) 0) n) (m := (m : Int))
    generalize packP (hintP b m (List.replicate (n * 256) 0) n) (m : Int) = pr at hpb hpl ⊢
    by_cases g : okG b m n ∧ okZ b m n
    · have e := hpb.2 g
      rw [if_pos (show okR b m n ∧ okG b m n ∧ okZ b m n from ⟨h, g⟩), e, if_neg (by simp), at_Equal ⟨by omega, hb.2⟩ ⟨by omega, hb.2⟩, Option.bind_some, if_neg (by simp)]
    · rw [if_neg (show ¬(okR b m n ∧ okG b m n ∧ okZ b m n) from fun k => g k.2)]
      by_cases h0 : pr.2 ≠ 0
      · rw [if_pos h0]
      · rw [if_neg h0, at_Equal ⟨by omega, hb.2⟩ ⟨by omega, hpl.2⟩, Option.bind_some, if_pos ?_]
        intro k
        have k := of_decide_eq_true k
        have h0 : pr.2 = 0 := by omega
        exact g (hpb.1 (Prod.ext k.symm h0))
  · rw [if_neg h, if_neg (show ¬(okR b m n ∧ okG b m n ∧ okZ b m n) from fun k => h k.1)]
theorem unpackP_ok (n most : Int) (b : List Int) : (∃ k, (unpackP n most b).1.length = k * 256 ∧ k ≤ 16) ∧ ∀ z ∈ (unpackP n most b).1, z = 0 ∨ z = 1 := by
  unfold unpackP
  by_cases h1 : (n < 0 ∨ 16 < n) ∨ (most < 0 ∨ 255 < most) ∨ (b.length : Int) ≠ most + n
  · rw [if_pos h1]
    exact ⟨⟨0, rfl, by omega⟩, fun z hz => absurd hz (by simp)⟩
  rw [if_neg h1]
  by_cases h2 : okR b most.toNat n.toNat ∧ okG b most.toNat n.toNat ∧ okZ b most.toNat n.toNat
  · rw [if_pos h2]
    refine ⟨⟨n.toNat, by rw [hintP_len, List.length_replicate], by omega⟩, fun z hz => ?_⟩
    obtain ⟨i, hi, rfl⟩ := List.mem_iff_getElem.1 hz
    have := hintP_01 (b := b) (m := most.toNat) (h := List.replicate (n.toNat * 256) 0) (fun i => .inl (getD_replicate _ i)) n.toNat i
    rwa [List.getD_eq_getElem?_getD, List.getElem?_eq_getElem hi] at this
  · rw [if_neg h2]
    exact ⟨⟨0, rfl, by omega⟩, fun z hz => absurd hz (by simp)⟩
theorem at_same {a : List Int} (h : (∃ k, a.length = k * 256 ∧ k ≤ 16) ∧ ∀ z ∈ a, z = 0 ∨ z = 1) : g_law15_same (a, a, ()) = some true := by
  have hM : 1000 ≤ maxLen := by decide
  obtain ⟨⟨k, h1, h2⟩, h3⟩ := h
  have w : Kd.wf (.sla .bool 256) a := ⟨⟨k, h1, by omega⟩, h3⟩
  exact Spec_at (ks := p_law15_same_ks) (rs := p_law15_same_rs) (x := (a, a, ())) ⟨w, w, trivial⟩ rfl
theorem q_law15_DringPlaces : ∀ x r, g_law15_DringPlaces x = some r → ∃ N, p_law15_DringPlaces N x = some r := by
  refine Spec_of (ks := p_law15_DringPlaces_ks) (rs := p_law15_DringPlaces_rs) fun x hw hq => ⟨0, ?_⟩
  obtain ⟨(l : List Int), (n : Int), (most : Int), (b : List Int), u⟩ := x
  have w1 := hw.1
  have w2 := hw.2.1
  have w3 := hw.2.2.1
  have w4 := hw.2.2.2.1
  unfold p_law15_DringPlaces
  dsimp only
  by_cases h : ((l.length / 256 : Nat) : Int) > 100
  · rw [if_pos h, at_live, Option.bind_some]
    rfl
  have h1 : g_dring_PackHints (l, most, ()) = some (packP l most) := Spec_at (ks := p_dring_PackHints_ks) (rs := p_dring_PackHints_rs) (x := (l, most, ())) ⟨w1, w3, trivial⟩ trivial
  have h2 : g_ref15_PackHints (l, most, ()) = some (packP l most) := Spec_at (ks := p_ref15_PackHints_ks) (rs := p_ref15_PackHints_rs) (x := (l, most, ())) ⟨w1, w3, trivial⟩ trivial
  have h3 : g_dring_UnpackHints (n, most, b, ()) = some (unpackP n most b) := Spec_at (ks := p_dring_UnpackHints_ks) (rs := p_dring_UnpackHints_rs) (x := (n, most, b, ())) ⟨w2, w3, w4, trivial⟩ trivial
  have h4 : g_ref15_UnpackHints (n, most, b, ()) = some (unpackP n most b) := Spec_at (ks := p_ref15_UnpackHints_ks) (rs := p_ref15_UnpackHints_rs) (x := (n, most, b, ())) ⟨w2, w3, w4, trivial⟩ trivial
  have hp := packP_b (l := l) (m := most)
  rw [if_neg h, h1, Option.bind_some, h2, Option.bind_some, h3, Option.bind_some, h4, Option.bind_some, at_live, Option.bind_some, if_pos rfl, at_Equal ⟨by omega, hp.2⟩ ⟨by omega, hp.2⟩, Option.bind_some, if_pos (by simp), if_pos rfl, at_same (unpackP_ok n most b), Option.bind_some, if_pos rfl]
  simp
end Go.Ax.TryP
/-! Printed by program (wires.py): the functions keep their signatures. -/
namespace Go.Ax.TryP
theorem s_ref01_Equal : SigOk Go.Proofs.Try.prog 29 ⟨[.sl (.int .u8), .sl (.int .u8)], [.bool], g_ref01_Equal⟩ := p_ref01_Equal_ok q_ref01_Equal
theorem s_dring_PackHints : SigOk Go.Proofs.Try.prog 25 ⟨[.sla .bool 256, .int .i64], [.sl (.int .u8), .int .i64], g_dring_PackHints⟩ := p_dring_PackHints_ok q_dring_PackHints
theorem s_ref15_PackHints : SigOk Go.Proofs.Try.prog 26 ⟨[.sla .bool 256, .int .i64], [.sl (.int .u8), .int .i64], g_ref15_PackHints⟩ := p_ref15_PackHints_ok q_ref15_PackHints
theorem s_dring_UnpackHints : SigOk Go.Proofs.Try.prog 27 ⟨[.int .i64, .int .i64, .sl (.int .u8)], [.sla .bool 256, .int .i64], g_dring_UnpackHints⟩ := p_dring_UnpackHints_ok q_dring_UnpackHints
theorem s_ref15_UnpackHints : SigOk Go.Proofs.Try.prog 28 ⟨[.int .i64, .int .i64, .sl (.int .u8)], [.sla .bool 256, .int .i64], g_ref15_UnpackHints⟩ := p_ref15_UnpackHints_ok s_ref15_PackHints s_ref01_Equal q_ref15_UnpackHints
theorem s_law15_same : SigOk Go.Proofs.Try.prog 30 ⟨[.sla .bool 256, .sla .bool 256], [.bool], g_law15_same⟩ := p_law15_same_ok q_law15_same
theorem s_law15_DringPlaces : SigOk Go.Proofs.Try.prog 7 ⟨[.sla .bool 256, .int .i64, .int .i64, .sl (.int .u8)], [.bool], g_law15_DringPlaces⟩ := p_law15_DringPlaces_ok s_law15_live s_dring_PackHints s_ref15_PackHints s_dring_UnpackHints s_ref15_UnpackHints s_ref01_Equal s_law15_same q_law15_DringPlaces
end Go.Ax.TryP
