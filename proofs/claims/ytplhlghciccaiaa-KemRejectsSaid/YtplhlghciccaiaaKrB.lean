/- A part of the proof: KrS2, KrP2, KrQ2, KkS1, KkP1, KkQ1. -/
import Derived.Test.YtplhlghciccaiaaKrA
set_option linter.unusedVariables false
namespace Go.Ax.TryP
open Go.Proofs
def cbd (e : Nat) (b : List Int) (i : Nat) : Int := (3329 + sum e fun k => bitAt b (2 * e * i + k) - bitAt b (2 * e * i + e + k)) % 3329
def fCbd (e : Int) (b : List Int) : List Int × Int := if (e = 2 ∨ e = 3) ∧ (b.length : Int) = 64 * e then (poly (cbd e.toNat b), 0) else (zeros, 1)
noncomputable def g_ring_Cbd_1 : Int × List Int × Unit → Option Int := Spec (ks := [.int .i64, .rp (.sl (.int .u8))]) (rs := [.int .u16]) (fun x => 0 ≤ x.1 ∧ x.1 < 8 * (x.2.1.length : Int)) fun x => bitAt x.2.1 x.1.toNat
noncomputable def g_ring_Cbd : Int × List Int × Unit → Option (List Int × Int) := Spec (ks := [.int .i64, .sl (.int .u8)]) (rs := [.xs (.int .u16) 256, .int .i64]) (fun _ => True) fun x => fCbd x.1 x.2.1
def encV (d : Nat) (z : Int) : Int := if d = 12 then z % 3329 else z
def encE (d : Nat) (a : List Int) (t : Nat) : Int := bitI (encV d (a.getD (t / d) 0)) (t % d)
def fEncode (d : Int) (a : List Int) : List Int × Int := if d < 1 ∨ 12 < d then ([], 1) else (fBytes (encE d.toNat a) (32 * d.toNat), 0)
noncomputable def g_ring_Encode : Int × List Int × Unit → Option (List Int × Int) := Spec (ks := [.int .i64, .xs (.int .u16) 256]) (rs := [.sl (.int .u8), .int .i64]) (fun _ => True) fun x => fEncode x.1 x.2.1
def num (d : Nat) (b : List Int) (i : Nat) : Int := sumB d fun k => bitAt b (i * d + k)
def fRaw (d : Nat) (b : List Int) : List Int := poly (num d b)
def okLen (d : Int) (b : List Int) : Prop := 1 ≤ d ∧ d ≤ 12 ∧ (b.length : Int) = 32 * d
noncomputable def g_ring_raw : Int × List Int × Unit → Option (List Int) := Spec (ks := [.int .i64, .sl (.int .u8)]) (rs := [.xs (.int .u16) 256]) (fun x => okLen x.1 x.2.1) fun x => fRaw x.1.toNat x.2.1
def fDecode (d : Int) (b : List Int) : List Int × Int := if d < 1 ∨ 12 < d ∨ (b.length : Int) ≠ 32 * d then (zeros, 1) else if d = 12 then (fRed (fRaw 12 b), 0) else (fRaw d.toNat b, 0)
noncomputable def g_ring_Decode : Int × List Int × Unit → Option (List Int × Int) := Spec (ks := [.int .i64, .sl (.int .u8)]) (rs := [.xs (.int .u16) 256, .int .i64]) (fun _ => True) fun x => fDecode x.1 x.2.1
def fCanon (b : List Int) : Bool := decide (b.length = 384 ∧ fRaw 12 b = fRed (fRaw 12 b))
noncomputable def g_ring_Canon : List Int × Unit → Option Bool := Spec (ks := [.sl (.int .u8)]) (rs := [.bool]) (fun _ => True) fun x => fCanon x.1
end Go.Ax.TryP
set_option linter.unusedVariables false
namespace Go.Ax.TryP
open Go.Proofs
noncomputable def p_ring_Cbd_1_E : AE := AE.of [(5, ty5), (23, ty23), (24, ty24)] []
noncomputable def p_ring_Cbd_1_H : Hints := [(3000000, [3])]
noncomputable def p_ring_Cbd_1_c : Code := (Try.f76).body.getD .skip
abbrev p_ring_Cbd_1_ks : List Kd := [.int .i64, .rp (.sl b8)]
abbrev p_ring_Cbd_1_rs : List Kd := [.int .u16]
noncomputable def p_ring_Cbd_1 (N : Nat) (x : Int × List Int × Unit) : Option (Int) :=
  if 0 ≤ (IntKind.i64.wrap (Int.tdiv x.1 (8:Int))) then (
  if (IntKind.i64.wrap (Int.tdiv x.1 (8:Int))) < (((List.length x.2.1) : Nat) : Int) then (
  if ((IntKind.i64.wrap (Int.tdiv x.1 (8:Int))).toNat) < (List.length x.2.1) then (
  if (Int.tmod x.1 (8:Int)) < 0 then none else (
  some (IntKind.u16.wrap (iand IntKind.u8 (ishr IntKind.u8 (List.getD x.2.1 ((IntKind.i64.wrap (Int.tdiv x.1 (8:Int))).toNat) 0) (Int.tmod x.1 (8:Int))) (1:Int))))) else none) else none) else none
theorem p_ring_Cbd_1_eq (N : Nat) (x : Ds [.int .i64, .rp (.sl b8)]) : funL p_ring_Cbd_1_E p_ring_Cbd_1_H (LT.nil) N Try.f76 p_ring_Cbd_1_c [.int .i64, .rp (.sl b8)] [.int .u16] x = p_ring_Cbd_1 N x := by kernel_rfl
theorem p_ring_Cbd_1_Eok : p_ring_Cbd_1_E.Ok Try.prog := AE.of_ok (all_cons ty5_ok (all_cons ty23_ok (all_cons ty24_ok all_nil))) all_nil
theorem p_ring_Cbd_1_ok {g : Ds [.int .i64, .rp (.sl b8)] → Option (Rs [.int .u16])} (hg : ∀ x r, g x = some r → ∃ N, p_ring_Cbd_1 N x = some r) : SigOk Try.prog 76 ⟨[.int .i64, .rp (.sl b8)], [.int .u16], g⟩ :=
  fun_of (E := p_ring_Cbd_1_E) (H := p_ring_Cbd_1_H) (L := fun N => LT.nil) (c := p_ring_Cbd_1_c) (ks := p_ring_Cbd_1_ks) (rs := p_ring_Cbd_1_rs) (F := p_ring_Cbd_1) (p_ring_Cbd_1_Eok) mix Try.func76 (by kernel_rfl) (fun N => OkAll.nil) p_ring_Cbd_1_eq hg
noncomputable abbrev Z_ring_Cbd_1 : Sig := ⟨[.int .i64, .rp (.sl b8)], [.int .u16], g_ring_Cbd_1⟩
noncomputable def p_ring_Cbd_E : AE := AE.of [(23, ty23), (24, ty24), (61, ty61)] [(76, Z_ring_Cbd_1)]
noncomputable def p_ring_Cbd_H : Hints := [(6, [0, 4, 6, 7, 26]), (10, [0, 4, 6, 7, 8, 9, 26, 29, 30]), (2000000, [4, 7]), (2000001, [0, 4, 6, 7, 26]), (2000002, [0, 4, 6, 7, 8, 9, 26]), (2000003, [0, 4, 6, 7, 8, 9, 26, 29, 30]), (3000000, [4, 5])]
noncomputable def p_ring_Cbd_c : Code := (Try.f66).body.getD .skip
noncomputable def p_ring_Cbd_l10_S : Shape where
  h := { tmps := [.sc (.int .i64), V, V, V, .sc (.ptr 0 0 false), V, .sc (.clo 76 1 0), .sc (.ptr 2 0 false), .sc (.int .i64), .sc (.int .u16), V, V, V, V, V, V, V, V, V, V, V, V, V, V, V, V, .sc (.int .i64), V, V, .sc (.int .i64), .sc (.int .i64), V, V, V, V, V, V, V, V, V, V, V, V, V, V, V, V, V, V, V, V, V, V, V, V, V, V, V, V, V, V], mem := [.live [.xs b16 (some 256)] (.own), .live [.one (.vec 3 none 1)] (.own), .live [.xs b16 (some 256)] (.own), .live [.xs b8 none] (.ro)] }
  ks := [.int, .int, .int, .int, .int, .int, .xs, .nat, .xs, .nat, .xs]
  st := fun x => { tmps := [.one (.sc (.int .i64 x.1)), U, U, U, .one (.sc (.ptr 0 0 none)), U, .one (.sc (.clo 76 1 0)), .one (.sc (.ptr 2 0 none)), .one (.sc (.int .i64 x.2.1)), .one (.sc (.int .u16 x.2.2.1)), U, U, U, U, U, U, U, U, U, U, U, U, U, U, U, U, .one (.sc (.int .i64 x.2.2.2.1)), U, U, .one (.sc (.int .i64 x.2.2.2.2.1)), .one (.sc (.int .i64 x.2.2.2.2.2.1)), U, U, U, U, U, U, U, U, U, U, U, U, U, U, U, U, U, U, U, U, U, U, U, U, U, U, U, U, U, U], mem := [.live { segs := [.xs b16 256 x.2.2.2.2.2.2.1], own := .own }, .live { segs := [.one (.vec 3 x.2.2.2.2.2.2.2.1 1)], own := .own }, .live { segs := [.xs b16 256 x.2.2.2.2.2.2.2.2.1], own := .own }, .live { segs := [.xs b8 x.2.2.2.2.2.2.2.2.2.1 x.2.2.2.2.2.2.2.2.2.2.1], own := .ro }] }
noncomputable def p_ring_Cbd_l10_F (N : Nat) (β : Type) (x : (Int × Int × Int × Int × Int × Int × List Int × Nat × List Int × Nat × List Int × Unit)) (kn : (Int × Int × Int × Int × Int × Int × List Int × Nat × List Int × Nat × List Int × Unit) → Option β) (ke : ((Int × Int × Int × Int × List Int × Nat × List Int × Nat × List Int × Unit)) → Option β) : Option β :=
  if (x.2.2.2.2.2.1 < x.2.2.2.2.1) then
    (g_ring_Cbd_1 ((IntKind.i64.wrap ((IntKind.i64.wrap ((IntKind.i64.wrap ((2:Int) * x.1)) * x.2.1)) + x.2.2.2.2.2.1)), x.2.2.2.2.2.2.2.2.2.2.1, ())).bind fun r1 => (
    (g_ring_Cbd_1 ((IntKind.i64.wrap ((IntKind.i64.wrap ((IntKind.i64.wrap ((IntKind.i64.wrap ((2:Int) * x.1)) * x.2.1)) + x.1)) + x.2.2.2.2.2.1)), x.2.2.2.2.2.2.2.2.2.2.1, ())).bind fun r2 => (
    kn (x.1, x.2.1, (IntKind.u16.wrap (x.2.2.1 + (IntKind.u16.wrap (r1 - r2)))), x.2.2.2.1, x.2.2.2.2.1, (IntKind.i64.wrap (x.2.2.2.2.2.1 + (1:Int))), x.2.2.2.2.2.2.1, x.2.2.2.2.2.2.2.1, x.2.2.2.2.2.2.2.2.1, x.2.2.2.2.2.2.2.2.2.1, x.2.2.2.2.2.2.2.2.2.2.1, ())))
  else
    ke (x.1, x.2.1, x.2.2.1, x.2.2.2.1, x.2.2.2.2.2.2.1, x.2.2.2.2.2.2.2.1, x.2.2.2.2.2.2.2.2.1, x.2.2.2.2.2.2.2.2.2.1, x.2.2.2.2.2.2.2.2.2.2.1, ())
noncomputable def p_ring_Cbd_l10_go : Go' ((Int × Int × Int × Int × List Int × Nat × List Int × Nat × List Int × Unit)) := fun y K => K (.exit 2) { tmps := [.one (.sc (.int .i64 y.1)), U, U, U, .one (.sc (.ptr 0 0 none)), U, .one (.sc (.clo 76 1 0)), .one (.sc (.ptr 2 0 none)), .one (.sc (.int .i64 y.2.1)), .one (.sc (.int .u16 y.2.2.1)), U, U, U, U, U, U, U, U, U, U, U, U, U, U, U, U, .one (.sc (.int .i64 y.2.2.2.1)), U, U, U, U, U, U, U, U, U, U, U, U, U, U, U, U, U, U, U, U, U, U, U, U, U, U, U, U, U, U, U, U, U, U], mem := [.live { segs := [.xs b16 256 y.2.2.2.2.1], own := .own }, .live { segs := [.one (.vec 3 y.2.2.2.2.2.1 1)], own := .own }, .live { segs := [.xs b16 256 y.2.2.2.2.2.2.1], own := .own }, .live { segs := [.xs b8 y.2.2.2.2.2.2.2.1 y.2.2.2.2.2.2.2.2.1], own := .ro }] }
noncomputable def p_ring_Cbd_l10_L (N : Nat) : LT := upd (LT.nil) 10 (loopE p_ring_Cbd_l10_S N (p_ring_Cbd_l10_F N) p_ring_Cbd_l10_go)
theorem p_ring_Cbd_l10_ok (N : Nat) : OkAll p_ring_Cbd_E p_ring_Cbd_H N (p_ring_Cbd_l10_L N) (subs p_ring_Cbd_c) :=
  addLoop (c := theLoop 10 p_ring_Cbd_c) (OkAll.nil) (by kernel_rfl) (fun x => by kernel_rfl) (fun β x kn ke => by kernel_rfl)
noncomputable def p_ring_Cbd_l6_S : Shape where
  h := { tmps := [.sc (.int .i64), V, V, V, .sc (.ptr 0 0 false), V, .sc (.clo 76 1 0), .sc (.ptr 2 0 false), V, V, V, V, V, V, V, V, V, V, V, V, V, V, V, V, V, V, .sc (.int .i64), V, V, V, V, V, V, V, V, V, V, V, V, V, V, V, V, V, V, V, V, V, V, V, V, V, V, V, V, V, V, V, V, V, V], mem := [.live [.xs b16 (some 256)] (.own), .live [.one (.vec 3 none 1)] (.own), .live [.xs b16 (some 256)] (.own), .live [.xs b8 none] (.ro)] }
  ks := [.int, .int, .xs, .nat, .xs, .nat, .xs]
  st := fun x => { tmps := [.one (.sc (.int .i64 x.1)), U, U, U, .one (.sc (.ptr 0 0 none)), U, .one (.sc (.clo 76 1 0)), .one (.sc (.ptr 2 0 none)), U, U, U, U, U, U, U, U, U, U, U, U, U, U, U, U, U, U, .one (.sc (.int .i64 x.2.1)), U, U, U, U, U, U, U, U, U, U, U, U, U, U, U, U, U, U, U, U, U, U, U, U, U, U, U, U, U, U, U, U, U, U], mem := [.live { segs := [.xs b16 256 x.2.2.1], own := .own }, .live { segs := [.one (.vec 3 x.2.2.2.1 1)], own := .own }, .live { segs := [.xs b16 256 x.2.2.2.2.1], own := .own }, .live { segs := [.xs b8 x.2.2.2.2.2.1 x.2.2.2.2.2.2.1], own := .ro }] }
noncomputable def p_ring_Cbd_l6_F (N : Nat) (β : Type) (x : (Int × Int × List Int × Nat × List Int × Nat × List Int × Unit)) (kn : (Int × Int × List Int × Nat × List Int × Nat × List Int × Unit) → Option β) (ke : ((List Int × List Int × Unit)) → Option β) : Option β :=
  if (x.2.1 < (256:Int)) then
    iter (p_ring_Cbd_l10_F N) N (x.1, x.2.1, (3329:Int), x.2.1, x.1, (0:Int), x.2.2.1, x.2.2.2.1, x.2.2.2.2.1, x.2.2.2.2.2.1, x.2.2.2.2.2.2.1, ()) fun y3 => (
    if 0 ≤ y3.2.1 then (
    if y3.2.1 < 256 then (
    if (y3.2.1.toNat) < 256 then (
    kn (y3.1, (IntKind.i64.wrap (y3.2.2.2.1 + (1:Int))), y3.2.2.2.2.1, y3.2.2.2.2.2.1, (List.set y3.2.2.2.2.2.2.1 (y3.2.1.toNat) (Int.tmod y3.2.2.1 (3329:Int))), y3.2.2.2.2.2.2.2.1, y3.2.2.2.2.2.2.2.2.1, ())) else none) else none) else none)
  else
    ke (x.2.2.1, x.2.2.2.2.1, ())
noncomputable def p_ring_Cbd_l6_go : Go' ((List Int × List Int × Unit)) := fun y K => K (.exit 0) { tmps := [U, U, U, U, .one (.sc (.ptr 0 0 none)), U, U, .one (.sc (.ptr 1 0 none)), U, U, U, U, U, U, U, U, U, U, U, U, U, U, U, U, U, U, U, U, U, U, U, U, U, U, U, U, U, U, U, U, U, U, U, U, U, U, U, U, U, U, U, U, U, U, U, U, U, U, U, U, U], mem := [.live { segs := [.xs b16 256 y.1], own := .own }, .live { segs := [.xs b16 256 y.2.1], own := .own }] }
noncomputable def p_ring_Cbd_l6_L (N : Nat) : LT := upd (p_ring_Cbd_l10_L N) 6 (loopE p_ring_Cbd_l6_S N (p_ring_Cbd_l6_F N) p_ring_Cbd_l6_go)
theorem p_ring_Cbd_l6_ok (N : Nat) : OkAll p_ring_Cbd_E p_ring_Cbd_H N (p_ring_Cbd_l6_L N) (subs p_ring_Cbd_c) :=
  addLoop (c := theLoop 6 p_ring_Cbd_c) (p_ring_Cbd_l10_ok N) (by kernel_rfl) (fun x => by kernel_rfl) (fun β x kn ke => by kernel_rfl)
abbrev p_ring_Cbd_ks : List Kd := [.int .i64, .sl b8]
abbrev p_ring_Cbd_rs : List Kd := [.xs b16 256, .int .i64]
noncomputable def p_ring_Cbd (N : Nat) (x : Int × List Int × Unit) : Option (List Int × Int) :=
  if (x.1 ≠ (2:Int)) then
    if (x.1 ≠ (3:Int)) then
      some ((List.replicate 256 0), (1:Int))
    else
      if ((((List.length x.2.1) : Nat) : Int) ≠ (IntKind.i64.wrap ((64:Int) * x.1))) then
        some ((List.replicate 256 0), (1:Int))
      else
        iter (p_ring_Cbd_l6_F N) N (x.1, (0:Int), (List.replicate 256 0), (List.length x.2.1), (List.replicate 256 0), (List.length x.2.1), x.2.1, ()) fun y4 => (
        some (y4.2.1, (0:Int)))
  else
    if ((((List.length x.2.1) : Nat) : Int) ≠ (IntKind.i64.wrap ((64:Int) * x.1))) then
      some ((List.replicate 256 0), (1:Int))
    else
      iter (p_ring_Cbd_l6_F N) N (x.1, (0:Int), (List.replicate 256 0), (List.length x.2.1), (List.replicate 256 0), (List.length x.2.1), x.2.1, ()) fun y5 => (
      some (y5.2.1, (0:Int)))
theorem p_ring_Cbd_eq (N : Nat) (x : Ds [.int .i64, .sl b8]) : funL p_ring_Cbd_E p_ring_Cbd_H (p_ring_Cbd_l6_L N) N Try.f66 p_ring_Cbd_c [.int .i64, .sl b8] [.xs b16 256, .int .i64] x = p_ring_Cbd N x := by kernel_rfl
theorem p_ring_Cbd_Eok (e0 : SigOk Try.prog 76 Z_ring_Cbd_1) : p_ring_Cbd_E.Ok Try.prog := AE.of_ok (all_cons ty23_ok (all_cons ty24_ok (all_cons ty61_ok all_nil))) (all_cons ⟨e0, enters_ring_Cbd_1⟩ all_nil)
theorem p_ring_Cbd_ok (e0 : SigOk Try.prog 76 Z_ring_Cbd_1) {g : Ds [.int .i64, .sl b8] → Option (Rs [.xs b16 256, .int .i64])} (hg : ∀ x r, g x = some r → ∃ N, p_ring_Cbd N x = some r) : SigOk Try.prog 66 ⟨[.int .i64, .sl b8], [.xs b16 256, .int .i64], g⟩ :=
  fun_of (E := p_ring_Cbd_E) (H := p_ring_Cbd_H) (L := fun N => p_ring_Cbd_l6_L N) (c := p_ring_Cbd_c) (ks := p_ring_Cbd_ks) (rs := p_ring_Cbd_rs) (F := p_ring_Cbd) (p_ring_Cbd_Eok e0) mix Try.func66 (by kernel_rfl) (fun N => p_ring_Cbd_l6_ok N) p_ring_Cbd_eq hg
noncomputable def p_ring_Encode_E : AE := AE.of [(5, ty5), (23, ty23), (24, ty24), (61, ty61)] [(41, Z_ring_Reduce)]
noncomputable def p_ring_Encode_H : Hints := [(7, [0, 6, 24, 25]), (10, [0, 6, 7, 8, 24, 25, 29, 30]), (2000000, [6]), (2000001, [0, 6, 24, 25]), (2000002, [0, 6, 24, 25]), (2000003, [0, 6, 7, 8, 24, 25, 29, 30]), (3000000, [4, 5])]
noncomputable def p_ring_Encode_c : Code := (Try.f59).body.getD .skip
noncomputable def p_ring_Encode_l10_S : Shape where
  h := { tmps := [.sc (.int .i64), V, V, V, V, V, .sc (.vec 0 none 1), .sc (.int .i64), .sc (.int .u16), V, V, V, V, V, V, V, V, V, V, V, V, V, V, V, .agg [.xs b16 (some 256)], .sc (.int .i64), V, V, V, .sc (.int .i64), .sc (.int .i64), V, V, V, V, V, V, V, V, V, V, V, V, V, V, V, V, V, V, V, V, V, V, V, V, V], mem := [.live [.xs b8 none] (.own)] }
  ks := [.int, .nat, .int, .int, .xs, .int, .int, .int, .nat, .xs]
  st := fun x => { tmps := [.one (.sc (.int .i64 x.1)), U, U, U, U, U, .one (.sc (.vec 0 x.2.1 1)), .one (.sc (.int .i64 x.2.2.1)), .one (.sc (.int .u16 x.2.2.2.1)), U, U, U, U, U, U, U, U, U, U, U, U, U, U, U, .one (.agg [.xs b16 256 x.2.2.2.2.1]), .one (.sc (.int .i64 x.2.2.2.2.2.1)), U, U, U, .one (.sc (.int .i64 x.2.2.2.2.2.2.1)), .one (.sc (.int .i64 x.2.2.2.2.2.2.2.1)), U, U, U, U, U, U, U, U, U, U, U, U, U, U, U, U, U, U, U, U, U, U, U, U, U], mem := [.live { segs := [.xs b8 x.2.2.2.2.2.2.2.2.1 x.2.2.2.2.2.2.2.2.2.1], own := .own }] }
noncomputable def p_ring_Encode_l10_F (N : Nat) (β : Type) (x : (Int × Nat × Int × Int × List Int × Int × Int × Int × Nat × List Int × Unit)) (kn : (Int × Nat × Int × Int × List Int × Int × Int × Int × Nat × List Int × Unit) → Option β) (ke : ((Int × Nat × List Int × Int × Nat × List Int × Unit)) → Option β) : Option β :=
  if (x.2.2.2.2.2.2.2.1 < x.2.2.2.2.2.2.1) then
    if 0 ≤ (IntKind.i64.wrap (Int.tdiv (IntKind.i64.wrap ((IntKind.i64.wrap (x.2.2.1 * x.1)) + x.2.2.2.2.2.2.2.1)) (8:Int))) then (
    if (IntKind.i64.wrap (Int.tdiv (IntKind.i64.wrap ((IntKind.i64.wrap (x.2.2.1 * x.1)) + x.2.2.2.2.2.2.2.1)) (8:Int))) < ((x.2.1 : Nat) : Int) then (
    if ((IntKind.i64.wrap (Int.tdiv (IntKind.i64.wrap ((IntKind.i64.wrap (x.2.2.1 * x.1)) + x.2.2.2.2.2.2.2.1)) (8:Int))).toNat) < x.2.2.2.2.2.2.2.2.1 then (
    if x.2.2.2.2.2.2.2.1 < 0 then none else (
    if (Int.tmod (IntKind.i64.wrap ((IntKind.i64.wrap (x.2.2.1 * x.1)) + x.2.2.2.2.2.2.2.1)) (8:Int)) < 0 then none else (
    if 0 ≤ (IntKind.i64.wrap (Int.tdiv (IntKind.i64.wrap ((IntKind.i64.wrap (x.2.2.1 * x.1)) + x.2.2.2.2.2.2.2.1)) (8:Int))) then (
    if (IntKind.i64.wrap (Int.tdiv (IntKind.i64.wrap ((IntKind.i64.wrap (x.2.2.1 * x.1)) + x.2.2.2.2.2.2.2.1)) (8:Int))) < ((x.2.1 : Nat) : Int) then (
    if ((IntKind.i64.wrap (Int.tdiv (IntKind.i64.wrap ((IntKind.i64.wrap (x.2.2.1 * x.1)) + x.2.2.2.2.2.2.2.1)) (8:Int))).toNat) < x.2.2.2.2.2.2.2.2.1 then (
    kn (x.1, x.2.1, x.2.2.1, x.2.2.2.1, x.2.2.2.2.1, x.2.2.2.2.2.1, x.2.2.2.2.2.2.1, (IntKind.i64.wrap (x.2.2.2.2.2.2.2.1 + (1:Int))), x.2.2.2.2.2.2.2.2.1, (List.set x.2.2.2.2.2.2.2.2.2.1 ((IntKind.i64.wrap (Int.tdiv (IntKind.i64.wrap ((IntKind.i64.wrap (x.2.2.1 * x.1)) + x.2.2.2.2.2.2.2.1)) (8:Int))).toNat) (ior IntKind.u8 (List.getD x.2.2.2.2.2.2.2.2.2.1 ((IntKind.i64.wrap (Int.tdiv (IntKind.i64.wrap ((IntKind.i64.wrap (x.2.2.1 * x.1)) + x.2.2.2.2.2.2.2.1)) (8:Int))).toNat) 0) (ishl IntKind.u8 (IntKind.u8.wrap (iand IntKind.u16 (ishr IntKind.u16 x.2.2.2.1 x.2.2.2.2.2.2.2.1) (1:Int))) (Int.tmod (IntKind.i64.wrap ((IntKind.i64.wrap (x.2.2.1 * x.1)) + x.2.2.2.2.2.2.2.1)) (8:Int))))), ())) else none) else none) else none))) else none) else none) else none
  else
    ke (x.1, x.2.1, x.2.2.2.2.1, x.2.2.2.2.2.1, x.2.2.2.2.2.2.2.2.1, x.2.2.2.2.2.2.2.2.2.1, ())
noncomputable def p_ring_Encode_l10_go : Go' ((Int × Nat × List Int × Int × Nat × List Int × Unit)) := fun y K => K (.exit 2) { tmps := [.one (.sc (.int .i64 y.1)), U, U, U, U, U, .one (.sc (.vec 0 y.2.1 1)), U, U, U, U, U, U, U, U, U, U, U, U, U, U, U, U, U, .one (.agg [.xs b16 256 y.2.2.1]), .one (.sc (.int .i64 y.2.2.2.1)), U, U, U, U, U, U, U, U, U, U, U, U, U, U, U, U, U, U, U, U, U, U, U, U, U, U, U, U, U, U], mem := [.live { segs := [.xs b8 y.2.2.2.2.1 y.2.2.2.2.2.1], own := .own }] }
noncomputable def p_ring_Encode_l10_L (N : Nat) : LT := upd (LT.nil) 10 (loopE p_ring_Encode_l10_S N (p_ring_Encode_l10_F N) p_ring_Encode_l10_go)
theorem p_ring_Encode_l10_ok (N : Nat) : OkAll p_ring_Encode_E p_ring_Encode_H N (p_ring_Encode_l10_L N) (subs p_ring_Encode_c) :=
  addLoop (c := theLoop 10 p_ring_Encode_c) (OkAll.nil) (by kernel_rfl) (fun x => by kernel_rfl) (fun β x kn ke => by kernel_rfl)
noncomputable def p_ring_Encode_l7_S : Shape where
  h := { tmps := [.sc (.int .i64), V, V, V, V, V, .sc (.vec 0 none 1), V, V, V, V, V, V, V, V, V, V, V, V, V, V, V, V, V, .agg [.xs b16 (some 256)], .sc (.int .i64), V, V, V, V, V, V, V, V, V, V, V, V, V, V, V, V, V, V, V, V, V, V, V, V, V, V, V, V, V, V], mem := [.live [.xs b8 none] (.own)] }
  ks := [.int, .nat, .xs, .int, .nat, .xs]
  st := fun x => { tmps := [.one (.sc (.int .i64 x.1)), U, U, U, U, U, .one (.sc (.vec 0 x.2.1 1)), U, U, U, U, U, U, U, U, U, U, U, U, U, U, U, U, U, .one (.agg [.xs b16 256 x.2.2.1]), .one (.sc (.int .i64 x.2.2.2.1)), U, U, U, U, U, U, U, U, U, U, U, U, U, U, U, U, U, U, U, U, U, U, U, U, U, U, U, U, U, U], mem := [.live { segs := [.xs b8 x.2.2.2.2.1 x.2.2.2.2.2.1], own := .own }] }
noncomputable def p_ring_Encode_l7_F (N : Nat) (β : Type) (x : (Int × Nat × List Int × Int × Nat × List Int × Unit)) (kn : (Int × Nat × List Int × Int × Nat × List Int × Unit) → Option β) (ke : ((Nat × Nat × List Int × Unit)) → Option β) : Option β :=
  if (x.2.2.2.1 < (256:Int)) then
    if 0 ≤ x.2.2.2.1 then (
    if x.2.2.2.1 < 256 then (
    if (x.2.2.2.1.toNat) < 256 then (
    iter (p_ring_Encode_l10_F N) N (x.1, x.2.1, x.2.2.2.1, (List.getD x.2.2.1 (x.2.2.2.1.toNat) 0), x.2.2.1, x.2.2.2.1, x.1, (0:Int), x.2.2.2.2.1, x.2.2.2.2.2.1, ()) fun y2 => (
    kn (y2.1, y2.2.1, y2.2.2.1, (IntKind.i64.wrap (y2.2.2.2.1 + (1:Int))), y2.2.2.2.2.1, y2.2.2.2.2.2.1, ()))) else none) else none) else none
  else
    ke (x.2.1, x.2.2.2.2.1, x.2.2.2.2.2.1, ())
noncomputable def p_ring_Encode_l7_go : Go' ((Nat × Nat × List Int × Unit)) := fun y K => K (.exit 0) { tmps := [U, U, U, U, U, U, .one (.sc (.vec 0 y.1 1)), U, U, U, U, U, U, U, U, U, U, U, U, U, U, U, U, U, U, U, U, U, U, U, U, U, U, U, U, U, U, U, U, U, U, U, U, U, U, U, U, U, U, U, U, U, U, U, U, U], mem := [.live { segs := [.xs b8 y.2.1 y.2.2.1], own := .own }] }
noncomputable def p_ring_Encode_l7_L (N : Nat) : LT := upd (p_ring_Encode_l10_L N) 7 (loopE p_ring_Encode_l7_S N (p_ring_Encode_l7_F N) p_ring_Encode_l7_go)
theorem p_ring_Encode_l7_ok (N : Nat) : OkAll p_ring_Encode_E p_ring_Encode_H N (p_ring_Encode_l7_L N) (subs p_ring_Encode_c) :=
  addLoop (c := theLoop 7 p_ring_Encode_c) (p_ring_Encode_l10_ok N) (by kernel_rfl) (fun x => by kernel_rfl) (fun β x kn ke => by kernel_rfl)
abbrev p_ring_Encode_ks : List Kd := [.int .i64, .xs b16 256]
abbrev p_ring_Encode_rs : List Kd := [.sl b8, .int .i64]
noncomputable def p_ring_Encode (N : Nat) (x : Int × List Int × Unit) : Option (List Int × Int) :=
  if (x.1 < (1:Int)) then
    some ([], (1:Int))
  else
    if (x.1 > (12:Int)) then
      some ([], (1:Int))
    else
      if (x.1 = (12:Int)) then
        (g_ring_Reduce (x.2.1, ())).bind fun r1 => (
        if 0 ≤ (IntKind.i64.wrap ((32:Int) * x.1)) then (
        if (IntKind.i64.wrap ((32:Int) * x.1)) = (IntKind.i64.wrap ((32:Int) * x.1)) then (
        if (IntKind.i64.wrap ((32:Int) * x.1)) * 1 ≤ 281474976710656 then (
        iter (p_ring_Encode_l7_F N) N (x.1, ((IntKind.i64.wrap ((32:Int) * x.1)).toNat), r1, (0:Int), ((IntKind.i64.wrap ((32:Int) * x.1)).toNat), (List.replicate ((IntKind.i64.wrap ((32:Int) * x.1)).toNat) 0), ()) fun y3 => (
        some (y3.2.2.1, (0:Int)))) else none) else none) else none)
      else
        if 0 ≤ (IntKind.i64.wrap ((32:Int) * x.1)) then (
        if (IntKind.i64.wrap ((32:Int) * x.1)) = (IntKind.i64.wrap ((32:Int) * x.1)) then (
        if (IntKind.i64.wrap ((32:Int) * x.1)) * 1 ≤ 281474976710656 then (
        iter (p_ring_Encode_l7_F N) N (x.1, ((IntKind.i64.wrap ((32:Int) * x.1)).toNat), x.2.1, (0:Int), ((IntKind.i64.wrap ((32:Int) * x.1)).toNat), (List.replicate ((IntKind.i64.wrap ((32:Int) * x.1)).toNat) 0), ()) fun y4 => (
        some (y4.2.2.1, (0:Int)))) else none) else none) else none
theorem p_ring_Encode_eq (N : Nat) (x : Ds [.int .i64, .xs b16 256]) : funL p_ring_Encode_E p_ring_Encode_H (p_ring_Encode_l7_L N) N Try.f59 p_ring_Encode_c [.int .i64, .xs b16 256] [.sl b8, .int .i64] x = p_ring_Encode N x := by kernel_rfl
theorem p_ring_Encode_Eok (e0 : SigOk Try.prog 41 Z_ring_Reduce) : p_ring_Encode_E.Ok Try.prog := AE.of_ok (all_cons ty5_ok (all_cons ty23_ok (all_cons ty24_ok (all_cons ty61_ok all_nil)))) (all_cons ⟨e0, enters_ring_Reduce⟩ all_nil)
theorem p_ring_Encode_ok (e0 : SigOk Try.prog 41 Z_ring_Reduce) {g : Ds [.int .i64, .xs b16 256] → Option (Rs [.sl b8, .int .i64])} (hg : ∀ x r, g x = some r → ∃ N, p_ring_Encode N x = some r) : SigOk Try.prog 59 ⟨[.int .i64, .xs b16 256], [.sl b8, .int .i64], g⟩ :=
  fun_of (E := p_ring_Encode_E) (H := p_ring_Encode_H) (L := fun N => p_ring_Encode_l7_L N) (c := p_ring_Encode_c) (ks := p_ring_Encode_ks) (rs := p_ring_Encode_rs) (F := p_ring_Encode) (p_ring_Encode_Eok e0) mix Try.func59 (by kernel_rfl) (fun N => p_ring_Encode_l7_ok N) p_ring_Encode_eq hg
noncomputable def p_ring_raw_E : AE := AE.of [(5, ty5), (23, ty23), (24, ty24), (61, ty61)] []
noncomputable def p_ring_raw_H : Hints := [(3, [0, 1, 4, 5, 9]), (6, [0, 1, 4, 5, 6, 9, 12, 13]), (2000000, [4, 5]), (2000001, [0, 1, 4, 5, 9]), (2000002, [0, 1, 4, 5, 9]), (2000003, [0, 1, 4, 5, 6, 9, 12, 13]), (3000000, [4])]
noncomputable def p_ring_raw_c : Code := (Try.f40).body.getD .skip
noncomputable def p_ring_raw_l6_S : Shape where
  h := { tmps := [.sc (.int .i64), .sc (.vec 0 none 1), V, V, .sc (.ptr 1 0 false), .sc (.ptr 2 0 false), .sc (.int .i64), V, V, .sc (.int .i64), V, V, .sc (.int .i64), .sc (.int .i64), V, V, V, V, V, V, V, V, V, V, V, V, V, V, V, V, V, V, V, V, V, V, V, V, V, V, V], mem := [.live [.xs b8 none] (.ro), .live [.xs b16 (some 256)] (.own), .live [.xs b16 (some 256)] (.own)] }
  ks := [.int, .nat, .int, .int, .int, .int, .nat, .xs, .xs, .xs]
  st := fun x => { tmps := [.one (.sc (.int .i64 x.1)), .one (.sc (.vec 0 x.2.1 1)), U, U, .one (.sc (.ptr 1 0 none)), .one (.sc (.ptr 2 0 none)), .one (.sc (.int .i64 x.2.2.1)), U, U, .one (.sc (.int .i64 x.2.2.2.1)), U, U, .one (.sc (.int .i64 x.2.2.2.2.1)), .one (.sc (.int .i64 x.2.2.2.2.2.1)), U, U, U, U, U, U, U, U, U, U, U, U, U, U, U, U, U, U, U, U, U, U, U, U, U, U, U], mem := [.live { segs := [.xs b8 x.2.2.2.2.2.2.1 x.2.2.2.2.2.2.2.1], own := .ro }, .live { segs := [.xs b16 256 x.2.2.2.2.2.2.2.2.1], own := .own }, .live { segs := [.xs b16 256 x.2.2.2.2.2.2.2.2.2.1], own := .own }] }
noncomputable def p_ring_raw_l6_F (N : Nat) (β : Type) (x : (Int × Nat × Int × Int × Int × Int × Nat × List Int × List Int × List Int × Unit)) (kn : (Int × Nat × Int × Int × Int × Int × Nat × List Int × List Int × List Int × Unit) → Option β) (ke : ((Int × Nat × Int × Nat × List Int × List Int × List Int × Unit)) → Option β) : Option β :=
  if (x.2.2.2.2.2.1 < x.2.2.2.2.1) then
    if 0 ≤ x.2.2.1 then (
    if x.2.2.1 < 256 then (
    if (x.2.2.1.toNat) < 256 then (
    if 0 ≤ (IntKind.i64.wrap (Int.tdiv (IntKind.i64.wrap ((IntKind.i64.wrap (x.2.2.1 * x.1)) + x.2.2.2.2.2.1)) (8:Int))) then (
    if (IntKind.i64.wrap (Int.tdiv (IntKind.i64.wrap ((IntKind.i64.wrap (x.2.2.1 * x.1)) + x.2.2.2.2.2.1)) (8:Int))) < ((x.2.1 : Nat) : Int) then (
    if ((IntKind.i64.wrap (Int.tdiv (IntKind.i64.wrap ((IntKind.i64.wrap (x.2.2.1 * x.1)) + x.2.2.2.2.2.1)) (8:Int))).toNat) < x.2.2.2.2.2.2.1 then (
    if (Int.tmod (IntKind.i64.wrap ((IntKind.i64.wrap (x.2.2.1 * x.1)) + x.2.2.2.2.2.1)) (8:Int)) < 0 then none else (
    if x.2.2.2.2.2.1 < 0 then none else (
    if 0 ≤ x.2.2.1 then (
    if x.2.2.1 < 256 then (
    if (x.2.2.1.toNat) < 256 then (
    kn (x.1, x.2.1, x.2.2.1, x.2.2.2.1, x.2.2.2.2.1, (IntKind.i64.wrap (x.2.2.2.2.2.1 + (1:Int))), x.2.2.2.2.2.2.1, x.2.2.2.2.2.2.2.1, x.2.2.2.2.2.2.2.2.1, (List.set x.2.2.2.2.2.2.2.2.2.1 (x.2.2.1.toNat) (ior IntKind.u16 (List.getD x.2.2.2.2.2.2.2.2.2.1 (x.2.2.1.toNat) 0) (ishl IntKind.u16 (IntKind.u16.wrap (iand IntKind.u8 (ishr IntKind.u8 (List.getD x.2.2.2.2.2.2.2.1 ((IntKind.i64.wrap (Int.tdiv (IntKind.i64.wrap ((IntKind.i64.wrap (x.2.2.1 * x.1)) + x.2.2.2.2.2.1)) (8:Int))).toNat) 0) (Int.tmod (IntKind.i64.wrap ((IntKind.i64.wrap (x.2.2.1 * x.1)) + x.2.2.2.2.2.1)) (8:Int))) (1:Int))) x.2.2.2.2.2.1))), ())) else none) else none) else none))) else none) else none) else none) else none) else none) else none
  else
    ke (x.1, x.2.1, x.2.2.2.1, x.2.2.2.2.2.2.1, x.2.2.2.2.2.2.2.1, x.2.2.2.2.2.2.2.2.1, x.2.2.2.2.2.2.2.2.2.1, ())
noncomputable def p_ring_raw_l6_go : Go' ((Int × Nat × Int × Nat × List Int × List Int × List Int × Unit)) := fun y K => K (.exit 2) { tmps := [.one (.sc (.int .i64 y.1)), .one (.sc (.vec 0 y.2.1 1)), U, U, .one (.sc (.ptr 1 0 none)), .one (.sc (.ptr 2 0 none)), U, U, U, .one (.sc (.int .i64 y.2.2.1)), U, U, U, U, U, U, U, U, U, U, U, U, U, U, U, U, U, U, U, U, U, U, U, U, U, U, U, U, U, U, U], mem := [.live { segs := [.xs b8 y.2.2.2.1 y.2.2.2.2.1], own := .ro }, .live { segs := [.xs b16 256 y.2.2.2.2.2.1], own := .own }, .live { segs := [.xs b16 256 y.2.2.2.2.2.2.1], own := .own }] }
noncomputable def p_ring_raw_l6_L (N : Nat) : LT := upd (LT.nil) 6 (loopE p_ring_raw_l6_S N (p_ring_raw_l6_F N) p_ring_raw_l6_go)
theorem p_ring_raw_l6_ok (N : Nat) : OkAll p_ring_raw_E p_ring_raw_H N (p_ring_raw_l6_L N) (subs p_ring_raw_c) :=
  addLoop (c := theLoop 6 p_ring_raw_c) (OkAll.nil) (by kernel_rfl) (fun x => by kernel_rfl) (fun β x kn ke => by kernel_rfl)
noncomputable def p_ring_raw_l3_S : Shape where
  h := { tmps := [.sc (.int .i64), .sc (.vec 0 none 1), V, V, .sc (.ptr 1 0 false), .sc (.ptr 2 0 false), V, V, V, .sc (.int .i64), V, V, V, V, V, V, V, V, V, V, V, V, V, V, V, V, V, V, V, V, V, V, V, V, V, V, V, V, V, V, V], mem := [.live [.xs b8 none] (.ro), .live [.xs b16 (some 256)] (.own), .live [.xs b16 (some 256)] (.own)] }
  ks := [.int, .nat, .int, .nat, .xs, .xs, .xs]
  st := fun x => { tmps := [.one (.sc (.int .i64 x.1)), .one (.sc (.vec 0 x.2.1 1)), U, U, .one (.sc (.ptr 1 0 none)), .one (.sc (.ptr 2 0 none)), U, U, U, .one (.sc (.int .i64 x.2.2.1)), U, U, U, U, U, U, U, U, U, U, U, U, U, U, U, U, U, U, U, U, U, U, U, U, U, U, U, U, U, U, U], mem := [.live { segs := [.xs b8 x.2.2.2.1 x.2.2.2.2.1], own := .ro }, .live { segs := [.xs b16 256 x.2.2.2.2.2.1], own := .own }, .live { segs := [.xs b16 256 x.2.2.2.2.2.2.1], own := .own }] }
noncomputable def p_ring_raw_l3_F (N : Nat) (β : Type) (x : (Int × Nat × Int × Nat × List Int × List Int × List Int × Unit)) (kn : (Int × Nat × Int × Nat × List Int × List Int × List Int × Unit) → Option β) (ke : ((List Int × List Int × Unit)) → Option β) : Option β :=
  if (x.2.2.1 < (256:Int)) then
    iter (p_ring_raw_l6_F N) N (x.1, x.2.1, x.2.2.1, x.2.2.1, x.1, (0:Int), x.2.2.2.1, x.2.2.2.2.1, x.2.2.2.2.2.1, x.2.2.2.2.2.2.1, ()) fun y1 => (
    kn (y1.1, y1.2.1, (IntKind.i64.wrap (y1.2.2.1 + (1:Int))), y1.2.2.2.1, y1.2.2.2.2.1, y1.2.2.2.2.2.1, y1.2.2.2.2.2.2.1, ()))
  else
    ke (x.2.2.2.2.2.1, x.2.2.2.2.2.2.1, ())
noncomputable def p_ring_raw_l3_go : Go' ((List Int × List Int × Unit)) := fun y K => K (.exit 0) { tmps := [U, U, U, U, .one (.sc (.ptr 0 0 none)), .one (.sc (.ptr 1 0 none)), U, U, U, U, U, U, U, U, U, U, U, U, U, U, U, U, U, U, U, U, U, U, U, U, U, U, U, U, U, U, U, U, U, U, U], mem := [.live { segs := [.xs b16 256 y.1], own := .own }, .live { segs := [.xs b16 256 y.2.1], own := .own }] }
noncomputable def p_ring_raw_l3_L (N : Nat) : LT := upd (p_ring_raw_l6_L N) 3 (loopE p_ring_raw_l3_S N (p_ring_raw_l3_F N) p_ring_raw_l3_go)
theorem p_ring_raw_l3_ok (N : Nat) : OkAll p_ring_raw_E p_ring_raw_H N (p_ring_raw_l3_L N) (subs p_ring_raw_c) :=
  addLoop (c := theLoop 3 p_ring_raw_c) (p_ring_raw_l6_ok N) (by kernel_rfl) (fun x => by kernel_rfl) (fun β x kn ke => by kernel_rfl)
abbrev p_ring_raw_ks : List Kd := [.int .i64, .sl b8]
abbrev p_ring_raw_rs : List Kd := [.xs b16 256]
noncomputable def p_ring_raw (N : Nat) (x : Int × List Int × Unit) : Option (List Int) :=
  iter (p_ring_raw_l3_F N) N (x.1, (List.length x.2.1), (0:Int), (List.length x.2.1), x.2.1, (List.replicate 256 0), (List.replicate 256 0), ()) fun y2 => (
  some y2.2.1)
theorem p_ring_raw_eq (N : Nat) (x : Ds [.int .i64, .sl b8]) : funL p_ring_raw_E p_ring_raw_H (p_ring_raw_l3_L N) N Try.f40 p_ring_raw_c [.int .i64, .sl b8] [.xs b16 256] x = p_ring_raw N x := by kernel_rfl
theorem p_ring_raw_Eok : p_ring_raw_E.Ok Try.prog := AE.of_ok (all_cons ty5_ok (all_cons ty23_ok (all_cons ty24_ok (all_cons ty61_ok all_nil)))) all_nil
theorem p_ring_raw_ok {g : Ds [.int .i64, .sl b8] → Option (Rs [.xs b16 256])} (hg : ∀ x r, g x = some r → ∃ N, p_ring_raw N x = some r) : SigOk Try.prog 40 ⟨[.int .i64, .sl b8], [.xs b16 256], g⟩ :=
  fun_of (E := p_ring_raw_E) (H := p_ring_raw_H) (L := fun N => p_ring_raw_l3_L N) (c := p_ring_raw_c) (ks := p_ring_raw_ks) (rs := p_ring_raw_rs) (F := p_ring_raw) (p_ring_raw_Eok) mix Try.func40 (by kernel_rfl) (fun N => p_ring_raw_l3_ok N) p_ring_raw_eq hg
noncomputable abbrev Z_ring_raw : Sig := ⟨[.int .i64, .sl b8], [.xs b16 256], g_ring_raw⟩
noncomputable def p_ring_Decode_E : AE := AE.of [(23, ty23), (24, ty24), (61, ty61)] [(40, Z_ring_raw), (41, Z_ring_Reduce)]
noncomputable def p_ring_Decode_H : Hints := [(3000000, [4, 5])]
noncomputable def p_ring_Decode_c : Code := (Try.f62).body.getD .skip
abbrev p_ring_Decode_ks : List Kd := [.int .i64, .sl b8]
abbrev p_ring_Decode_rs : List Kd := [.xs b16 256, .int .i64]
noncomputable def p_ring_Decode (N : Nat) (x : Int × List Int × Unit) : Option (List Int × Int) :=
  if (x.1 < (1:Int)) then
    some ((List.replicate 256 0), (1:Int))
  else
    if (x.1 > (12:Int)) then
      some ((List.replicate 256 0), (1:Int))
    else
      if ((((List.length x.2.1) : Nat) : Int) ≠ (IntKind.i64.wrap ((32:Int) * x.1))) then
        some ((List.replicate 256 0), (1:Int))
      else
        (g_ring_raw (x.1, x.2.1, ())).bind fun r1 => (
        if (x.1 = (12:Int)) then
          (g_ring_Reduce (r1, ())).bind fun r2 => (
          some (r2, (0:Int)))
        else
          some (r1, (0:Int)))
theorem p_ring_Decode_eq (N : Nat) (x : Ds [.int .i64, .sl b8]) : funL p_ring_Decode_E p_ring_Decode_H (LT.nil) N Try.f62 p_ring_Decode_c [.int .i64, .sl b8] [.xs b16 256, .int .i64] x = p_ring_Decode N x := by kernel_rfl
theorem p_ring_Decode_Eok (e0 : SigOk Try.prog 40 Z_ring_raw) (e1 : SigOk Try.prog 41 Z_ring_Reduce) : p_ring_Decode_E.Ok Try.prog := AE.of_ok (all_cons ty23_ok (all_cons ty24_ok (all_cons ty61_ok all_nil))) (all_cons ⟨e0, enters_ring_raw⟩ (all_cons ⟨e1, enters_ring_Reduce⟩ all_nil))
theorem p_ring_Decode_ok (e0 : SigOk Try.prog 40 Z_ring_raw) (e1 : SigOk Try.prog 41 Z_ring_Reduce) {g : Ds [.int .i64, .sl b8] → Option (Rs [.xs b16 256, .int .i64])} (hg : ∀ x r, g x = some r → ∃ N, p_ring_Decode N x = some r) : SigOk Try.prog 62 ⟨[.int .i64, .sl b8], [.xs b16 256, .int .i64], g⟩ :=
  fun_of (E := p_ring_Decode_E) (H := p_ring_Decode_H) (L := fun N => LT.nil) (c := p_ring_Decode_c) (ks := p_ring_Decode_ks) (rs := p_ring_Decode_rs) (F := p_ring_Decode) (p_ring_Decode_Eok e0 e1) mix Try.func62 (by kernel_rfl) (fun N => OkAll.nil) p_ring_Decode_eq hg
noncomputable def p_ring_Canon_E : AE := AE.of [(23, ty23), (24, ty24), (61, ty61)] [(40, Z_ring_raw), (41, Z_ring_Reduce)]
noncomputable def p_ring_Canon_H : Hints := [(3000000, [2])]
noncomputable def p_ring_Canon_c : Code := (Try.f21).body.getD .skip
abbrev p_ring_Canon_ks : List Kd := [.sl b8]
abbrev p_ring_Canon_rs : List Kd := [.bool]
noncomputable def p_ring_Canon (N : Nat) (x : List Int × Unit) : Option (Bool) :=
  if ((((List.length x.1) : Nat) : Int) ≠ (384:Int)) then
    some false
  else
    (g_ring_raw ((12:Int), x.1, ())).bind fun r1 => (
    (g_ring_Reduce (r1, ())).bind fun r2 => (
    some (decide (r1 = r2))))
theorem p_ring_Canon_eq (N : Nat) (x : Ds [.sl b8]) : funL p_ring_Canon_E p_ring_Canon_H (LT.nil) N Try.f21 p_ring_Canon_c [.sl b8] [.bool] x = p_ring_Canon N x := by kernel_rfl
theorem p_ring_Canon_Eok (e0 : SigOk Try.prog 40 Z_ring_raw) (e1 : SigOk Try.prog 41 Z_ring_Reduce) : p_ring_Canon_E.Ok Try.prog := AE.of_ok (all_cons ty23_ok (all_cons ty24_ok (all_cons ty61_ok all_nil))) (all_cons ⟨e0, enters_ring_raw⟩ (all_cons ⟨e1, enters_ring_Reduce⟩ all_nil))
theorem p_ring_Canon_ok (e0 : SigOk Try.prog 40 Z_ring_raw) (e1 : SigOk Try.prog 41 Z_ring_Reduce) {g : Ds [.sl b8] → Option (Rs [.bool])} (hg : ∀ x r, g x = some r → ∃ N, p_ring_Canon N x = some r) : SigOk Try.prog 21 ⟨[.sl b8], [.bool], g⟩ :=
  fun_of (E := p_ring_Canon_E) (H := p_ring_Canon_H) (L := fun N => LT.nil) (c := p_ring_Canon_c) (ks := p_ring_Canon_ks) (rs := p_ring_Canon_rs) (F := p_ring_Canon) (p_ring_Canon_Eok e0 e1) mix Try.func21 (by kernel_rfl) (fun N => OkAll.nil) p_ring_Canon_eq hg
end Go.Ax.TryP
set_option linter.unusedVariables false
namespace Go.Ax.TryP
open Go.Proofs
theorem wf_b1 {b : List Int} : wfAll [.sl (.int .u8)] (b, ()) ↔ b.length ≤ maxLen ∧ ∀ z ∈ b, 0 ≤ z ∧ z ≤ 255 := by simp only [wfAll, wf_bytes, and_true]
theorem wf_b2 {a b : List Int} : wfAll [.sl (.int .u8), .sl (.int .u8)] (a, b, ()) ↔ (a.length ≤ maxLen ∧ ∀ z ∈ a, 0 ≤ z ∧ z ≤ 255) ∧ b.length ≤ maxLen ∧ ∀ z ∈ b, 0 ≤ z ∧ z ≤ 255 := by simp only [wfAll, wf_bytes, and_true]
theorem byte_at {b : List Int} (h : ∀ z ∈ b, 0 ≤ z ∧ z ≤ 255) (i : Nat) : 0 ≤ b.getD i 0 ∧ b.getD i 0 ≤ 255 := by
  by_cases hi : i < b.length
  · exact h _ (getD_mem hi)
  · rw [getD_out (by omega)]; omega
theorem q_ref01_Equal : ∀ x r, g_ref01_Equal x = some r → ∃ N, p_ref01_Equal N x = some r := by
  refine Spec_of (ks := p_ref01_Equal_ks) (rs := p_ref01_Equal_rs) fun x hw _ => ⟨0, ?_⟩
  obtain ⟨(a : List Int), (b : List Int), u⟩ := x
  obtain ⟨⟨_, ha⟩, _, hb⟩ := wf_b2.1 hw
  unfold p_ref01_Equal
  rw [eq_of_bytes ha hb]
theorem at_Equal {a b : List Int} (ha : a.length ≤ maxLen) (ha' : ∀ z ∈ a, 0 ≤ z ∧ z ≤ 255) (hb : b.length ≤ maxLen) (hb' : ∀ z ∈ b, 0 ≤ z ∧ z ≤ 255) : g_ref01_Equal (a, b, ()) = some (decide (a = b)) :=
  Spec_at (ks := p_ref01_Equal_ks) (rs := p_ref01_Equal_rs) (x := (a, b, ())) (wf_b2.2 ⟨⟨ha, ha'⟩, hb, hb'⟩) trivial
theorem wf_ib {d : Int} {b : List Int} : wfAll [.int .i64, .sl (.int .u8)] (d, b, ()) ↔ (-9223372036854775808 ≤ d ∧ d ≤ 9223372036854775807) ∧ b.length ≤ maxLen ∧ ∀ z ∈ b, 0 ≤ z ∧ z ≤ 255 := by
  have : Kd.wf (.int .i64) d ↔ -9223372036854775808 ≤ d ∧ d ≤ 9223372036854775807 := okInt_i64
  simp only [wfAll, wf_bytes, and_true, this]
theorem wf_irb {d : Int} {b : List Int} : wfAll [.int .i64, .rp (.sl (.int .u8))] (d, b, ()) ↔ (-9223372036854775808 ≤ d ∧ d ≤ 9223372036854775807) ∧ b.length ≤ maxLen ∧ ∀ z ∈ b, 0 ≤ z ∧ z ≤ 255 := wf_ib
theorem at_Cbd1 {n : Int} {b : List Int} (h : b.length ≤ maxLen ∧ ∀ z ∈ b, 0 ≤ z ∧ z ≤ 255) (h1 : -9223372036854775808 ≤ n ∧ n ≤ 9223372036854775807) (hn : 0 ≤ n ∧ n < 8 * (b.length : Int)) :
    g_ring_Cbd_1 (n, b, ()) = some (bitAt b n.toNat) := Spec_at (ks := p_ring_Cbd_1_ks) (rs := p_ring_Cbd_1_rs) (x := (n, b, ())) (wf_irb.2 ⟨h1, h⟩) hn
theorem bitAt_b (b : List Int) (t : Nat) : 0 ≤ bitAt b t ∧ bitAt b t ≤ 1 := bitI_b _ _
theorem q_ring_Cbd_1 : ∀ x r, g_ring_Cbd_1 x = some r → ∃ N, p_ring_Cbd_1 N x = some r := by
  refine Spec_of (ks := p_ring_Cbd_1_ks) (rs := p_ring_Cbd_1_rs) fun x hw hq => ⟨0, ?_⟩
  obtain ⟨(n : Int), (b : List Int), u⟩ := x
  obtain ⟨hn, hl, hb⟩ := wf_irb.1 hw
  have hq : 0 ≤ n ∧ n < 8 * (b.length : Int) := hq
  obtain ⟨m, rfl⟩ : ∃ m : Nat, n = m := ⟨n.toNat, by omega⟩
  have hz := byte_at hb (m / 8)
  have e1 : (m : Int) / 8 = ((m / 8 : Nat) : Int) := by omega
  have e2 : (m : Int) % 8 = ((m % 8 : Nat) : Int) := by omega
  have hbit := bitI_b (b.getD (m / 8) 0) (m % 8)
  unfold p_ring_Cbd_1
  dsimp only
  rw [tdiv_pos (show (0 : Int) ≤ m by omega), tmod_pos (show (0 : Int) ≤ m by omega), e1, e2, wrap_i64 (by omega) (by omega), Int.toNat_natCast, if_pos (by omega), if_pos (by omega), if_pos (by omega),
    if_neg (by omega), bit_u8 hz.1 hz.2 (show m % 8 ≤ 8 by omega), wrap_u16 hbit.1 (by omega)]
  rfl
def cbdTo (e : Nat) (b : List Int) (i k : Nat) : Int := 3329 + sum k fun k => bitAt b (2 * e * i + k) - bitAt b (2 * e * i + e + k)
theorem cbdTo_b (e : Nat) (b : List Int) (i : Nat) : ∀ k : Nat, 3329 - (k : Int) ≤ cbdTo e b i k ∧ cbdTo e b i k ≤ 3329 + (k : Int)
  | 0 => by simp [cbdTo, sum]
  | k + 1 => by
    have h := cbdTo_b e b i k
    have h1 := bitAt_b b (2 * e * i + k)
    have h2 := bitAt_b b (2 * e * i + e + k)
    unfold cbdTo at *
    rw [sum]
    omega
theorem cbdTo_succ (e : Nat) (b : List Int) (i k : Nat) : cbdTo e b i (k + 1) = cbdTo e b i k + (bitAt b (2 * e * i + k) - bitAt b (2 * e * i + e + k)) := by
  unfold cbdTo; rw [sum]; omega
theorem cbd_loop {e : Nat} {b : List Int} (he : e = 2 ∨ e = 3) (hlen : b.length = 64 * e) (hb : b.length ≤ maxLen ∧ ∀ z ∈ b, 0 ≤ z ∧ z ≤ 255) {β : Type} {K : _ → Option β} (Z : List Int) (hZ : Z.length = 256) :
    iter (p_ring_Cbd_l6_F 300) 300 ((e : Int), (0 : Int), Z, b.length, Z, b.length, b, ()) K = K (Z, poly (cbd e b), ()) := by
  refine (iter_run (F := p_ring_Cbd_l6_F 300) (s := fun i => ((e : Int), (i : Int), Z, b.length, part (cbd e b) i Z, b.length, b, ())) (y := (Z, poly (cbd e b), ())) 256 ?_ ?_ 300 (by omega))
  · intro i hi kn
    unfold p_ring_Cbd_l6_F
    dsimp only
    rw [if_pos (by omega)]
    refine (iter_run (F := p_ring_Cbd_l10_F 300) (s := fun k => ((e : Int), (i : Int), cbdTo e b i k, (i : Int), (e : Int), (k : Int), Z, b.length, part (cbd e b) i Z, b.length, b, ()))
      (y := ((e : Int), (i : Int), cbdTo e b i e, (i : Int), Z, b.length, part (cbd e b) i Z, b.length, b, ())) e ?_ ?_ 300 (by omega)).trans ?_
    · intro k hk kn
      have hc := cbdTo_b e b i k
      have hc2 := cbdTo_b e b i (k + 1)
      have h1 := bitAt_b b (2 * e * i + k)
      have h2 := bitAt_b b (2 * e * i + e + k)
      have e1 : ((2 : Int) * e) * i + k = ((2 * e * i + k : Nat) : Int) := by simp
      have e2 : ((2 : Int) * e) * i + e + k = ((2 * e * i + e + k : Nat) : Int) := by simp
      have hm : 2 * e * i + e + k < 8 * b.length := by rcases he with rfl | rfl <;> omega
      have hm2 : 2 * e * i ≤ 3000 := by rcases he with rfl | rfl <;> omega
      have e3 : ((2 : Int) * e) * i = ((2 * e * i : Nat) : Int) := by simp
      unfold p_ring_Cbd_l10_F
      dsimp only
      rw [if_pos (by omega), wrap_i64 (x := 2 * (e : Int)) (by omega) (by omega), wrap_i64 (x := 2 * (e : Int) * i) (by omega) (by omega), wrap_i64 (x := 2 * (e : Int) * i + k) (by omega) (by omega),
        wrap_i64 (x := 2 * (e : Int) * i + e) (by omega) (by omega), wrap_i64 (x := 2 * (e : Int) * i + e + k) (by omega) (by omega), e1, e2, at_Cbd1 hb (by omega) (by omega)]
      simp only [Option.bind_some]
      rw [at_Cbd1 hb (by omega) (by omega)]
      simp only [Option.bind_some]
      rw [Int.toNat_natCast, Int.toNat_natCast, wrap_i64 (x := (k : Int) + 1) (by omega) (by omega)]
      have ev : IntKind.u16.wrap (cbdTo e b i k + IntKind.u16.wrap (bitAt b (2 * e * i + k) - bitAt b (2 * e * i + e + k))) = cbdTo e b i (k + 1) := by
        rw [cbdTo_succ] at *
        rw [wrap_u16_mod, wrap_u16_mod]
        omega
      rw [ev, Int.natCast_add]
      rfl
    · intro kn
      unfold p_ring_Cbd_l10_F
      dsimp only
      rw [if_neg (by omega)]
    · have hc := cbdTo_b e b i e
      dsimp only
      rw [if_pos (by omega), if_pos (by omega), if_pos (by omega), Int.toNat_natCast, wrap_i64 (by omega) (by omega), tmod_pos (by omega)]
      rw [part_set' (h := cbd e b) (i := i) (a := Z) (z := cbdTo e b i e % 3329) (by omega) rfl, Int.natCast_add]
      rfl
  · intro kn
    unfold p_ring_Cbd_l6_F
    dsimp only
    rw [if_neg (by omega), part_all hZ]
    rfl
theorem q_ring_Cbd : ∀ x r, g_ring_Cbd x = some r → ∃ N, p_ring_Cbd N x = some r := by
  refine Spec_of (ks := p_ring_Cbd_ks) (rs := p_ring_Cbd_rs) fun x hw _ => ⟨300, ?_⟩
  obtain ⟨(d : Int), (b : List Int), u⟩ := x
  obtain ⟨hd, hb⟩ := wf_ib.1 hw
  unfold p_ring_Cbd
  have hZ : (List.replicate 256 (0 : Int)).length = 256 := List.length_replicate ..
  dsimp only
  show _ = some (fCbd d b)
  have hz : zeros = List.replicate 256 0 := rfl
  unfold fCbd
  rw [hz]
  generalize List.replicate 256 (0 : Int) = Z at hZ ⊢
  by_cases h2 : d = 2
  · subst h2
    rw [if_neg (by omega), wrap_i64 (by omega) (by omega)]
    by_cases hl : (b.length : Int) = 64 * 2
    · rw [if_neg (by omega), if_pos ⟨.inl rfl, hl⟩]
      exact (cbd_loop (e := 2) (.inl rfl) (by omega) hb Z hZ).trans rfl
    · rw [if_pos hl, if_neg fun h => hl h.2]
  · rw [if_pos h2]
    by_cases h3 : d = 3
    · subst h3
      rw [if_neg (by omega), wrap_i64 (by omega) (by omega)]
      by_cases hl : (b.length : Int) = 64 * 3
      · rw [if_neg (by omega), if_pos ⟨.inr rfl, hl⟩]
        exact (cbd_loop (e := 3) (.inr rfl) (by omega) hb Z hZ).trans rfl
      · rw [if_pos hl, if_neg fun h => hl h.2]
    · rw [if_pos h3, if_neg fun h => by omega]
theorem dm {i d k : Nat} (hk : k < d) : (i * d + k) / d = i ∧ (i * d + k) % d = k := by
  constructor
  · rw [Nat.mul_comm, Nat.mul_add_div (by omega), Nat.div_eq_of_lt hk, Nat.add_zero]
  · rw [Nat.mul_comm, Nat.mul_add_mod, Nat.mod_eq_of_lt hk]
theorem id_le {i d n : Nat} (hi : i < n) : i * d + d ≤ n * d := by
  have h : (i + 1) * d ≤ n * d := Nat.mul_le_mul_right d hi
  rwa [Nat.succ_mul] at h
theorem encE_at {d i k : Nat} (a : List Int) (hk : k < d) : encE d a (i * d + k) = bitI (encV d (a.getD i 0)) k := by
  unfold encE; rw [(dm hk).1, (dm hk).2]
theorem encE_b (d : Nat) (a : List Int) (t : Nat) : 0 ≤ encE d a t ∧ encE d a t ≤ 1 := bitI_b _ _
theorem wf_ip {d : Int} {a : List Int} : wfAll [.int .i64, .xs (.int .u16) 256] (d, a, ()) ↔ (-9223372036854775808 ≤ d ∧ d ≤ 9223372036854775807) ∧ u16s 256 a := by
  have : Kd.wf (.int .i64) d ↔ -9223372036854775808 ≤ d ∧ d ≤ 9223372036854775807 := okInt_i64
  simp only [wfAll, wf_u16s, and_true, this]
theorem enc_loop {d : Nat} {a A : List Int} (h0 : 1 ≤ d) (h1 : d ≤ 12) (hA : ∀ i, i < 256 → A.getD i 0 = encV d (a.getD i 0)) (hu : u16s 256 A) {β : Type} {K : _ → Option β} :
    iter (p_ring_Encode_l7_F 300) 300 ((d : Int), 32 * d, A, (0 : Int), 32 * d, List.replicate (32 * d) 0, ()) K = K (32 * d, 32 * d, fBytes (encE d a) (32 * d), ()) := by
  have e0 : List.replicate (32 * d) 0 = fBytes (upTo (encE d a) (0 * d)) (32 * d) := by rw [Nat.zero_mul, fBytes_zero]
  rw [e0]
  refine (iter_run (F := p_ring_Encode_l7_F 300) (s := fun i => ((d : Int), 32 * d, A, (i : Int), 32 * d, fBytes (upTo (encE d a) (i * d)) (32 * d), ())) (y := (32 * d, 32 * d, fBytes (encE d a) (32 * d), ())) 256 ?_ ?_ 300 (by omega))
  · intro i hi kn
    have hz := hu.at i
    unfold p_ring_Encode_l7_F
    dsimp only
    rw [if_pos (by omega), if_pos (by omega), if_pos (by omega), if_pos (by omega), Int.toNat_natCast]
    refine (iter_run (F := p_ring_Encode_l10_F 300) (s := fun k => ((d : Int), 32 * d, (i : Int), A.getD i 0, A, (i : Int), (d : Int), (k : Int), 32 * d, fBytes (upTo (encE d a) (i * d + k)) (32 * d), ()))
      (y := ((d : Int), 32 * d, A, (i : Int), 32 * d, fBytes (upTo (encE d a) (i * d + d)) (32 * d), ())) d ?_ ?_ 300 (by omega)).trans ?_
    · intro k hk kn
      have hle := id_le (d := d) hi
      have hb := bitI_b (A.getD i 0) k
      have ee := encE_at (i := i) a hk
      have em : (i : Int) * d = ((i * d : Nat) : Int) := by simp
      have ea : ((i * d : Nat) : Int) + k = ((i * d + k : Nat) : Int) := by simp
      have ed : ((i * d + k : Nat) : Int) / 8 = (((i * d + k) / 8 : Nat) : Int) := by omega
      have er : ((i * d + k : Nat) : Int) % 8 = (((i * d + k) % 8 : Nat) : Int) := by omega
      unfold p_ring_Encode_l10_F
      dsimp only
      rw [if_pos (by omega), em, wrap_i64 (x := ((i * d : Nat) : Int)) (by omega) (by omega), ea, wrap_i64 (x := ((i * d + k : Nat) : Int)) (by omega) (by omega), tdiv_pos (by omega), tmod_pos (by omega), ed, er,
        wrap_i64 (x := (((i * d + k) / 8 : Nat) : Int)) (by omega) (by omega)]
      simp (disch := omega) only [if_pos, if_neg, Int.toNat_natCast]
      rw [bit_u16 hz.1 hz.2 (show k ≤ 16 by omega), wrap_u8 hb.1 (by omega), hA i hi, ← ee, fBytes_step (fun t _ => encE_b d a t) (by omega), wrap_i64 (by omega) (by omega), Int.natCast_add]
      rfl
    · intro kn
      unfold p_ring_Encode_l10_F
      dsimp only
      rw [if_neg (by omega)]
    · dsimp only
      rw [wrap_i64 (by omega) (by omega), Int.natCast_add, show (i + 1) * d = i * d + d from Nat.succ_mul i d]
      rfl
  · intro kn
    unfold p_ring_Encode_l7_F
    dsimp only
    rw [if_neg (by omega), show 256 * d = 8 * (32 * d) by omega, fBytes_all]
theorem q_ring_Encode : ∀ x r, g_ring_Encode x = some r → ∃ N, p_ring_Encode N x = some r := by
  refine Spec_of (ks := p_ring_Encode_ks) (rs := p_ring_Encode_rs) fun x hw _ => ⟨300, ?_⟩
  obtain ⟨(d : Int), (a : List Int), u⟩ := x
  obtain ⟨hd, ha⟩ := wf_ip.1 hw
  show _ = some (fEncode d a)
  unfold p_ring_Encode fEncode
  dsimp only
  by_cases h0 : d < 1
  · rw [if_pos h0, if_pos (.inl h0)]
  rw [if_neg h0]
  by_cases h1 : 12 < d
  · rw [if_pos h1, if_pos (.inr h1)]
  have hr : ¬(d < 1 ∨ 12 < d) := by omega
  rw [if_neg h1, if_neg hr, wrap_i64 (by omega) (by omega)]
  obtain ⟨n, rfl⟩ : ∃ n : Nat, d = n := ⟨d.toNat, by omega⟩
  have e1 : ((32 : Int) * n).toNat = 32 * n := by omega
  rw [e1, Int.toNat_natCast]
  by_cases h12 : (n : Int) = 12
  · rw [if_pos h12, at37 ha]
    simp only [Option.bind_some]
    rw [if_pos (by omega), if_pos trivial, if_pos (by omega)]
    refine (enc_loop (d := n) (a := a) (A := fRed a) (by omega) (by omega) (fun i hi => ?_) (red_fRed a).u16).trans rfl
    rw [encV, if_pos (by omega), fRed, poly_getD hi]
  · rw [if_neg h12, if_pos (by omega), if_pos rfl, if_pos (by omega)]
    refine (enc_loop (d := n) (a := a) (A := a) (by omega) (by omega) (fun i _ => ?_) ha).trans rfl
    rw [encV, if_neg (by omega)]
def refV (d : Nat) (z : Int) : Int := if d = 12 then z % 3329 else z % 2 ^ d
theorem num_b {d : Nat} (b : List Int) (i : Nat) (hd : d ≤ 12) : 0 ≤ num d b i ∧ num d b i < 4096 := by
  have := sumB_b (n := d) (c := fun k => bitAt b (i * d + k)) fun s _ => bitAt_b b _
  have := pow_le hd
  unfold num
  omega
theorem set_self {l : List Int} {i : Nat} {v : Int} (h : l.getD i 0 = v) (hi : i < l.length) : l.set i v = l := by
  subst h
  refine rows.ext (by simp) rfl fun j _ => ?_
  by_cases hj : i = j
  · subst hj; exact getD_set_eq hi
  · exact getD_set_ne hj
theorem q_ring_raw : ∀ x r, g_ring_raw x = some r → ∃ N, p_ring_raw N x = some r := by
  refine Spec_of (ks := p_ring_raw_ks) (rs := p_ring_raw_rs) fun x hw hq => ⟨300, ?_⟩
  obtain ⟨(d : Int), (b : List Int), u⟩ := x
  obtain ⟨hd, hb⟩ := wf_ib.1 hw
  obtain ⟨h0, h1, hl⟩ : 1 ≤ d ∧ d ≤ 12 ∧ (b.length : Int) = 32 * d := hq
  show _ = some (fRaw d.toNat b)
  unfold p_ring_raw
  have hZ : (List.replicate 256 (0 : Int)).length = 256 := List.length_replicate ..
  have hZ0 : ∀ i, (List.replicate 256 (0 : Int)).getD i 0 = 0 := getD_replicate 256
  dsimp only
  generalize List.replicate 256 (0 : Int) = Z at hZ hZ0 ⊢
  obtain ⟨n, rfl⟩ : ∃ n : Nat, d = n := ⟨d.toNat, by omega⟩
  rw [Int.toNat_natCast]
  have hn : n ≤ 12 := by omega
  refine (iter_run (F := p_ring_raw_l3_F 300) (s := fun i => ((n : Int), b.length, (i : Int), b.length, b, Z, part (num n b) i Z, ())) (y := (Z, fRaw n b, ())) 256 ?_ ?_ 300 (by omega)).trans ?_
  · intro i hi kn
    have hpl : (part (num n b) i Z).length = 256 := by rw [part_length (by omega), hZ]
    unfold p_ring_raw_l3_F
    dsimp only
    rw [if_pos (by omega)]
    refine (iter_from (F := p_ring_raw_l6_F 300) (s := fun k => ((n : Int), b.length, (i : Int), (i : Int), (n : Int), (k : Int), b.length, b, Z, (part (num n b) i Z).set i (sumB k fun k => bitAt b (i * n + k)), ()))
      (y := ((n : Int), b.length, (i : Int), b.length, b, Z, part (num n b) (i + 1) Z, ())) n ?_ ?_ ?_ 300 (by omega)).trans ?_
    · rw [set_self (by rw [part_getD (Nat.le_refl i), hZ0]; rfl) (by omega)]
      rfl
    · intro k hk kn
      have hle := id_le (d := n) hi
      have hz := byte_at hb.2 ((i * n + k) / 8)
      have hbit := bitAt_b b (i * n + k)
      have em : (i : Int) * n = ((i * n : Nat) : Int) := by simp
      have ea : ((i * n : Nat) : Int) + k = ((i * n + k : Nat) : Int) := by simp
      have ed : ((i * n + k : Nat) : Int) / 8 = (((i * n + k) / 8 : Nat) : Int) := by omega
      have er : ((i * n + k : Nat) : Int) % 8 = (((i * n + k) % 8 : Nat) : Int) := by omega
      have hs := sumB_b (n := k) (c := fun k => bitAt b (i * n + k)) fun s _ => bitAt_b b _
      unfold p_ring_raw_l6_F
      dsimp only
      rw [if_pos (by omega), em, wrap_i64 (x := ((i * n : Nat) : Int)) (by omega) (by omega), ea, wrap_i64 (x := ((i * n + k : Nat) : Int)) (by omega) (by omega), tdiv_pos (by omega), tmod_pos (by omega), ed, er,
        wrap_i64 (x := (((i * n + k) / 8 : Nat) : Int)) (by omega) (by omega), wrap_i64 (by omega) (by omega)]
      simp (disch := omega) only [if_pos, if_neg, Int.toNat_natCast]
      rw [bit_u8 hz.1 hz.2 (by omega), show bitI (b.getD ((i * n + k) / 8) 0) ((i * n + k) % 8) = bitAt b (i * n + k) from rfl, wrap_u16 hbit.1 (by omega), getD_set_eq (by omega), List.set_set,
        ior_add (k := .u16) rfl hs hbit (show k < 16 by omega), Int.natCast_add]
      rfl
    · intro kn
      unfold p_ring_raw_l6_F
      dsimp only
      rw [if_neg (by omega), part_set' (h := num n b) (i := i) (a := Z) (z := sumB n fun k => bitAt b (i * n + k)) (by omega) rfl]
    · dsimp only
      rw [wrap_i64 (by omega) (by omega), Int.natCast_add]
      rfl
  · intro kn
    unfold p_ring_raw_l3_F
    dsimp only
    rw [if_neg (by omega), part_all hZ]
    rfl
  · rfl
theorem fRaw_u16 {n : Nat} (b : List Int) (hn : n ≤ 12) : u16s 256 (fRaw n b) := poly_u16 fun i _ => by have := num_b b i hn; omega
theorem at_raw {d : Int} {b : List Int} (hd : okLen d b) (hb : b.length ≤ maxLen ∧ ∀ z ∈ b, 0 ≤ z ∧ z ≤ 255) : g_ring_raw (d, b, ()) = some (fRaw d.toNat b) :=
  Spec_at (ks := p_ring_raw_ks) (rs := p_ring_raw_rs) (x := (d, b, ())) (wf_ib.2 ⟨by unfold okLen at hd; omega, hb⟩) hd
theorem q_ring_Decode : ∀ x r, g_ring_Decode x = some r → ∃ N, p_ring_Decode N x = some r := by
  refine Spec_of (ks := p_ring_Decode_ks) (rs := p_ring_Decode_rs) fun x hw _ => ⟨0, ?_⟩
  obtain ⟨(d : Int), (b : List Int), u⟩ := x
  obtain ⟨hd, hb⟩ := wf_ib.1 hw
  show _ = some (fDecode d b)
  unfold p_ring_Decode fDecode
  have hz : zeros = List.replicate 256 0 := rfl
  dsimp only
  rw [hz]
  by_cases h0 : d < 1
  · rw [if_pos h0, if_pos (.inl h0)]
  rw [if_neg h0]
  by_cases h1 : 12 < d
  · rw [if_pos h1, if_pos (.inr (.inl h1))]
  rw [if_neg h1, wrap_i64 (by omega) (by omega)]
  by_cases hl : (b.length : Int) = 32 * d
  · have hr : ¬(d < 1 ∨ 12 < d ∨ (b.length : Int) ≠ 32 * d) := by omega
    have hz : ¬((b.length : Int) ≠ 32 * d) := fun h => h hl
    rw [if_neg hz, if_neg hr, at_raw ⟨by omega, by omega, hl⟩ hb]
    simp only [Option.bind_some]
    by_cases h12 : d = 12
    · subst h12
      rw [if_pos rfl, if_pos rfl, at37 (fRaw_u16 b (by omega))]
      rfl
    · rw [if_neg h12, if_neg h12]
  · rw [if_pos hl, if_pos (.inr (.inr hl))]
theorem q_ring_Canon : ∀ x r, g_ring_Canon x = some r → ∃ N, p_ring_Canon N x = some r := by
  refine Spec_of (ks := p_ring_Canon_ks) (rs := p_ring_Canon_rs) fun x hw _ => ⟨0, ?_⟩
  obtain ⟨(b : List Int), u⟩ := x
  have hb := wf_b1.1 hw
  show _ = some (fCanon b)
  unfold p_ring_Canon fCanon
  dsimp only
  by_cases hl : (b.length : Int) = 384
  · have hz : ¬((b.length : Int) ≠ 384) := fun h => h hl
    rw [if_neg hz, at_raw ⟨by omega, by omega, by omega⟩ hb]
    simp only [Option.bind_some]
    rw [at37 (fRaw_u16 b (by decide))]
    simp only [Option.bind_some]
    rw [show (12 : Int).toNat = 12 from rfl]
    congr 1
    exact decide_eq_decide.2 ⟨fun h => ⟨by omega, h⟩, fun h => h.2⟩
  · rw [if_pos hl]
    congr 1
    exact (decide_eq_false fun h => by omega).symm
theorem encV_b {d : Nat} {z : Int} (hz : 0 ≤ z) : 0 ≤ encV d z := by unfold encV; split <;> omega
theorem refV_eq {d : Nat} {z : Int} : encV d z % 2 ^ d = refV d z := by
  unfold encV refV
  split
  · rename_i h
    subst h
    omega
  · rfl
theorem fRaw_code {n : Nat} {a : List Int} (ha : u16s 256 a) : fRaw n (fBytes (encE n a) (32 * n)) = poly fun i => refV n (a.getD i 0) := by
  refine poly_congr fun i hi => ?_
  have hle := id_le (d := n) hi
  have hz := ha.at i
  rw [← refV_eq, ← sumB_bitI (encV_b hz.1)]
  refine sumB_congr fun k hk => ?_
  rw [bitAt_fBytes (fun t _ => encE_b n a t) (by omega), encE_at a hk]
theorem fCanon_code {a : List Int} (ha : u16s 256 a) : fCanon (fBytes (encE 12 a) (32 * 12)) = true := by
  unfold fCanon
  refine decide_eq_true ⟨fBytes_len _ _, ?_⟩
  rw [fRaw_code ha]
  refine poly_congr fun i hi => ?_
  rw [poly_getD hi]
  unfold refV
  simp only [if_true]
  omega
theorem fEncode_in {n : Nat} (a : List Int) (h0 : 1 ≤ n) (h1 : n ≤ 12) : fEncode n a = (fBytes (encE n a) (32 * n), 0) := by
  unfold fEncode
  rw [if_neg (by omega), Int.toNat_natCast]
end Go.Ax.TryP
set_option linter.unusedVariables false
namespace Go.Ax.TryP
open Go.Proofs
def rot (a n : Int) : Int := if n = 0 then a else ior .u64 (ishl .u64 a n) (ishr .u64 a (64 - n))
def x64 (a b : Int) : Int := ixor .u64 a b
def offs : List Int := [0, 1, 62, 28, 27, 36, 44, 6, 55, 20, 3, 10, 43, 25, 39, 41, 45, 15, 21, 8, 18, 2, 61, 56, 14]
def cons : List Int := [0x0000000000000001, 0x0000000000008082, 0x800000000000808a, 0x8000000080008000, 0x000000000000808b, 0x0000000080000001, 0x8000000080008081, 0x8000000000008009, 0x000000000000008a, 0x0000000000000088, 0x0000000080008009, 0x000000008000000a, 0x000000008000808b, 0x800000000000008b, 0x8000000000008089, 0x8000000000008003, 0x8000000000008002, 0x8000000000000080, 0x000000000000800a, 0x800000008000000a, 0x8000000080008081, 0x8000000000008080, 0x0000000080000001, 0x8000000080008008]
def at0 (a : List Int) (i : Nat) : Int := a.getD i 0
def cF (a : List Int) (x : Nat) : Int := x64 (x64 (x64 (x64 (at0 a x) (at0 a (x + 5))) (at0 a (x + 10))) (at0 a (x + 15))) (at0 a (x + 20))
def dF (a : List Int) (x : Nat) : Int := x64 (cF a ((x + 4) % 5)) (rot (cF a ((x + 1) % 5)) 1)
def tF (a : List Int) (i : Nat) : Int := rot (x64 (at0 a i) (dF a (i % 5))) (offs.getD i 0)
def inv5 (j : Nat) : Nat := 5 * (j % 5) + (3 * (j / 5) + j % 5) % 5
def to5 (i : Nat) : Nat := 5 * ((2 * (i % 5) + 3 * (i / 5)) % 5) + i / 5
def bF (a : List Int) (j : Nat) : Int := tF a (inv5 j)
def eF (b : Nat → Int) (i : Nat) : Int := x64 (b i) (iand .u64 (ixor .u64 18446744073709551615 (b (i / 5 * 5 + (i + 1) % 5))) (b (i / 5 * 5 + (i + 2) % 5)))
def mixS (a : List Int) : List Int := (List.range 25).map (eF (bF a))
def roundS (a : List Int) (c : Int) : List Int := (mixS a).set 0 (x64 (at0 (mixS a) 0) c)
def permN : Nat → List Int → List Int
  | 0, a => a
  | n + 1, a => roundS (permN n a) (cons.getD n 0)
def permS (a : List Int) : List Int := permN 24 a
noncomputable def g_bits_RotateLeft64 : Int × Int × Unit → Option Int := Spec (ks := [.int .u64, .int .i64]) (rs := [.int .u64]) (fun x => 0 ≤ x.2.1 ∧ x.2.1 < 64) fun x => rot x.1 x.2.1
noncomputable def g_ref03_turn : Int × Int × Unit → Option Int := Spec (ks := [.int .u64, .int .i64]) (rs := [.int .u64]) (fun x => 0 ≤ x.2.1 ∧ x.2.1 < 64) fun x => rot x.1 x.2.1
noncomputable def g_keccak_offsets : Unit → Option (List Int) := Spec (ks := []) (rs := [.xs (.int .i64) 25]) (fun _ => True) fun _ => offs
noncomputable def g_keccak_constants : Unit → Option (List Int) := Spec (ks := []) (rs := [.xs (.int .u64) 24]) (fun _ => True) fun _ => cons
noncomputable def g_ref03_constants : Unit → Option (List Int) := Spec (ks := []) (rs := [.xs (.int .u64) 24]) (fun _ => True) fun _ => cons
noncomputable def g_keccak_mixed : List Int × List Int × Unit → Option (List Int) := Spec (ks := [.xs (.int .u64) 25, .rp (.xs (.int .i64) 25)]) (rs := [.xs (.int .u64) 25]) (fun x => x.2.1 = offs) fun x => mixS x.1
noncomputable def g_ref03_round : List Int × Int × Unit → Option (List Int) := Spec (ks := [.xs (.int .u64) 25, .int .u64]) (rs := [.xs (.int .u64) 25]) (fun _ => True) fun x => roundS x.1 x.2.1
noncomputable def g_keccak_Permute : List Int × Unit → Option (List Int) := Spec (ks := [.xs (.int .u64) 25]) (rs := [.xs (.int .u64) 25]) (fun _ => True) fun x => permS x.1
noncomputable def g_ref03_Permute : List Int × Unit → Option (List Int) := Spec (ks := [.xs (.int .u64) 25]) (rs := [.xs (.int .u64) 25]) (fun _ => True) fun x => permS x.1
end Go.Ax.TryP
set_option linter.unusedVariables false
namespace Go.Ax.TryP
open Go.Proofs
noncomputable def p_bits_RotateLeft64_E : AE := AE.of [(3, ty3), (30, ty30)] []
noncomputable def p_bits_RotateLeft64_H : Hints := [(3000000, [4])]
noncomputable def p_bits_RotateLeft64_c : Code := (Try.f78).body.getD .skip
abbrev p_bits_RotateLeft64_ks : List Kd := [.int .u64, .int .i64]
abbrev p_bits_RotateLeft64_rs : List Kd := [.int .u64]
noncomputable def p_bits_RotateLeft64 (N : Nat) (x : Int × Int × Unit) : Option (Int) :=
  if (iand IntKind.u64 (IntKind.u64.wrap x.2.1) (63:Int)) < 0 then none else (
  if (IntKind.u64.wrap ((64:Int) - (iand IntKind.u64 (IntKind.u64.wrap x.2.1) (63:Int)))) < 0 then none else (
  some (ior IntKind.u64 (ishl IntKind.u64 x.1 (iand IntKind.u64 (IntKind.u64.wrap x.2.1) (63:Int))) (ishr IntKind.u64 x.1 (IntKind.u64.wrap ((64:Int) - (iand IntKind.u64 (IntKind.u64.wrap x.2.1) (63:Int))))))))
theorem p_bits_RotateLeft64_eq (N : Nat) (x : Ds [.int .u64, .int .i64]) : funL p_bits_RotateLeft64_E p_bits_RotateLeft64_H (LT.nil) N Try.f78 p_bits_RotateLeft64_c [.int .u64, .int .i64] [.int .u64] x = p_bits_RotateLeft64 N x := by kernel_rfl
theorem p_bits_RotateLeft64_Eok : p_bits_RotateLeft64_E.Ok Try.prog := AE.of_ok (all_cons ty3_ok (all_cons ty30_ok all_nil)) all_nil
theorem p_bits_RotateLeft64_ok {g : Ds [.int .u64, .int .i64] → Option (Rs [.int .u64])} (hg : ∀ x r, g x = some r → ∃ N, p_bits_RotateLeft64 N x = some r) : SigOk Try.prog 78 ⟨[.int .u64, .int .i64], [.int .u64], g⟩ :=
  fun_of (E := p_bits_RotateLeft64_E) (H := p_bits_RotateLeft64_H) (L := fun N => LT.nil) (c := p_bits_RotateLeft64_c) (ks := p_bits_RotateLeft64_ks) (rs := p_bits_RotateLeft64_rs) (F := p_bits_RotateLeft64) (p_bits_RotateLeft64_Eok) mix Try.func78 (by kernel_rfl) (fun N => OkAll.nil) p_bits_RotateLeft64_eq hg
noncomputable def p_ref03_turn_E : AE := AE.of [(3, ty3), (30, ty30)] []
noncomputable def p_ref03_turn_H : Hints := [(3000000, [4])]
noncomputable def p_ref03_turn_c : Code := (Try.f77).body.getD .skip
abbrev p_ref03_turn_ks : List Kd := [.int .u64, .int .i64]
abbrev p_ref03_turn_rs : List Kd := [.int .u64]
noncomputable def p_ref03_turn (N : Nat) (x : Int × Int × Unit) : Option (Int) :=
  if (x.2.1 = (0:Int)) then
    some x.1
  else
    if (IntKind.u64.wrap x.2.1) < 0 then none else (
    if (IntKind.u64.wrap (IntKind.i64.wrap ((64:Int) - x.2.1))) < 0 then none else (
    some (ior IntKind.u64 (ishl IntKind.u64 x.1 (IntKind.u64.wrap x.2.1)) (ishr IntKind.u64 x.1 (IntKind.u64.wrap (IntKind.i64.wrap ((64:Int) - x.2.1)))))))
theorem p_ref03_turn_eq (N : Nat) (x : Ds [.int .u64, .int .i64]) : funL p_ref03_turn_E p_ref03_turn_H (LT.nil) N Try.f77 p_ref03_turn_c [.int .u64, .int .i64] [.int .u64] x = p_ref03_turn N x := by kernel_rfl
theorem p_ref03_turn_Eok : p_ref03_turn_E.Ok Try.prog := AE.of_ok (all_cons ty3_ok (all_cons ty30_ok all_nil)) all_nil
theorem p_ref03_turn_ok {g : Ds [.int .u64, .int .i64] → Option (Rs [.int .u64])} (hg : ∀ x r, g x = some r → ∃ N, p_ref03_turn N x = some r) : SigOk Try.prog 77 ⟨[.int .u64, .int .i64], [.int .u64], g⟩ :=
  fun_of (E := p_ref03_turn_E) (H := p_ref03_turn_H) (L := fun N => LT.nil) (c := p_ref03_turn_c) (ks := p_ref03_turn_ks) (rs := p_ref03_turn_rs) (F := p_ref03_turn) (p_ref03_turn_Eok) mix Try.func77 (by kernel_rfl) (fun N => OkAll.nil) p_ref03_turn_eq hg
noncomputable def p_keccak_offsets_E : AE := AE.of [(3, ty3), (109, ty109)] []
noncomputable def p_keccak_offsets_H : Hints := [(3000000, [0])]
noncomputable def p_keccak_offsets_c : Code := (Try.f72).body.getD .skip
abbrev p_keccak_offsets_ks : List Kd := []
abbrev p_keccak_offsets_rs : List Kd := [.xs (.int .i64) 25]
noncomputable def p_keccak_offsets (N : Nat) (x : Unit) : Option (List Int) :=
  some (List.set (List.set (List.set (List.set (List.set (List.set (List.set (List.set (List.set (List.set (List.set (List.set (List.set (List.set (List.set (List.set (List.set (List.set (List.set (List.set (List.set (List.set (List.set (List.set (List.set (List.replicate 25 0) 0 (0:Int)) 1 (1:Int)) 2 (62:Int)) 3 (28:Int)) 4 (27:Int)) 5 (36:Int)) 6 (44:Int)) 7 (6:Int)) 8 (55:Int)) 9 (20:Int)) 10 (3:Int)) 11 (10:Int)) 12 (43:Int)) 13 (25:Int)) 14 (39:Int)) 15 (41:Int)) 16 (45:Int)) 17 (15:Int)) 18 (21:Int)) 19 (8:Int)) 20 (18:Int)) 21 (2:Int)) 22 (61:Int)) 23 (56:Int)) 24 (14:Int))
theorem p_keccak_offsets_eq (N : Nat) (x : Ds []) : funL p_keccak_offsets_E p_keccak_offsets_H (LT.nil) N Try.f72 p_keccak_offsets_c [] [.xs (.int .i64) 25] x = p_keccak_offsets N x := by kernel_rfl
theorem p_keccak_offsets_Eok : p_keccak_offsets_E.Ok Try.prog := AE.of_ok (all_cons ty3_ok (all_cons ty109_ok all_nil)) all_nil
theorem p_keccak_offsets_ok {g : Ds [] → Option (Rs [.xs (.int .i64) 25])} (hg : ∀ x r, g x = some r → ∃ N, p_keccak_offsets N x = some r) : SigOk Try.prog 72 ⟨[], [.xs (.int .i64) 25], g⟩ :=
  fun_of (E := p_keccak_offsets_E) (H := p_keccak_offsets_H) (L := fun N => LT.nil) (c := p_keccak_offsets_c) (ks := p_keccak_offsets_ks) (rs := p_keccak_offsets_rs) (F := p_keccak_offsets) (p_keccak_offsets_Eok) mix Try.func72 (by kernel_rfl) (fun N => OkAll.nil) p_keccak_offsets_eq hg
noncomputable def p_keccak_constants_E : AE := AE.of [(71, ty71), (105, ty105)] []
noncomputable def p_keccak_constants_H : Hints := [(3000000, [0])]
noncomputable def p_keccak_constants_c : Code := (Try.f73).body.getD .skip
abbrev p_keccak_constants_ks : List Kd := []
abbrev p_keccak_constants_rs : List Kd := [.xs (.int .u64) 24]
noncomputable def p_keccak_constants (N : Nat) (x : Unit) : Option (List Int) :=
  some (List.set (List.set (List.set (List.set (List.set (List.set (List.set (List.set (List.set (List.set (List.set (List.set (List.set (List.set (List.set (List.set (List.set (List.set (List.set (List.set (List.set (List.set (List.set (List.set (List.replicate 24 0) 0 (1:Int)) 1 (32898:Int)) 2 (9223372036854808714:Int)) 3 (9223372039002292224:Int)) 4 (32907:Int)) 5 (2147483649:Int)) 6 (9223372039002292353:Int)) 7 (9223372036854808585:Int)) 8 (138:Int)) 9 (136:Int)) 10 (2147516425:Int)) 11 (2147483658:Int)) 12 (2147516555:Int)) 13 (9223372036854775947:Int)) 14 (9223372036854808713:Int)) 15 (9223372036854808579:Int)) 16 (9223372036854808578:Int)) 17 (9223372036854775936:Int)) 18 (32778:Int)) 19 (9223372039002259466:Int)) 20 (9223372039002292353:Int)) 21 (9223372036854808704:Int)) 22 (2147483649:Int)) 23 (9223372039002292232:Int))
theorem p_keccak_constants_eq (N : Nat) (x : Ds []) : funL p_keccak_constants_E p_keccak_constants_H (LT.nil) N Try.f73 p_keccak_constants_c [] [.xs (.int .u64) 24] x = p_keccak_constants N x := by kernel_rfl
theorem p_keccak_constants_Eok : p_keccak_constants_E.Ok Try.prog := AE.of_ok (all_cons ty71_ok (all_cons ty105_ok all_nil)) all_nil
theorem p_keccak_constants_ok {g : Ds [] → Option (Rs [.xs (.int .u64) 24])} (hg : ∀ x r, g x = some r → ∃ N, p_keccak_constants N x = some r) : SigOk Try.prog 73 ⟨[], [.xs (.int .u64) 24], g⟩ :=
  fun_of (E := p_keccak_constants_E) (H := p_keccak_constants_H) (L := fun N => LT.nil) (c := p_keccak_constants_c) (ks := p_keccak_constants_ks) (rs := p_keccak_constants_rs) (F := p_keccak_constants) (p_keccak_constants_Eok) mix Try.func73 (by kernel_rfl) (fun N => OkAll.nil) p_keccak_constants_eq hg
noncomputable def p_ref03_constants_E : AE := AE.of [(71, ty71), (105, ty105)] []
noncomputable def p_ref03_constants_H : Hints := [(3000000, [0])]
noncomputable def p_ref03_constants_c : Code := (Try.f70).body.getD .skip
abbrev p_ref03_constants_ks : List Kd := []
abbrev p_ref03_constants_rs : List Kd := [.xs (.int .u64) 24]
noncomputable def p_ref03_constants (N : Nat) (x : Unit) : Option (List Int) :=
  some (List.set (List.set (List.set (List.set (List.set (List.set (List.set (List.set (List.set (List.set (List.set (List.set (List.set (List.set (List.set (List.set (List.set (List.set (List.set (List.set (List.set (List.set (List.set (List.set (List.replicate 24 0) 0 (1:Int)) 1 (32898:Int)) 2 (9223372036854808714:Int)) 3 (9223372039002292224:Int)) 4 (32907:Int)) 5 (2147483649:Int)) 6 (9223372039002292353:Int)) 7 (9223372036854808585:Int)) 8 (138:Int)) 9 (136:Int)) 10 (2147516425:Int)) 11 (2147483658:Int)) 12 (2147516555:Int)) 13 (9223372036854775947:Int)) 14 (9223372036854808713:Int)) 15 (9223372036854808579:Int)) 16 (9223372036854808578:Int)) 17 (9223372036854775936:Int)) 18 (32778:Int)) 19 (9223372039002259466:Int)) 20 (9223372039002292353:Int)) 21 (9223372036854808704:Int)) 22 (2147483649:Int)) 23 (9223372039002292232:Int))
theorem p_ref03_constants_eq (N : Nat) (x : Ds []) : funL p_ref03_constants_E p_ref03_constants_H (LT.nil) N Try.f70 p_ref03_constants_c [] [.xs (.int .u64) 24] x = p_ref03_constants N x := by kernel_rfl
theorem p_ref03_constants_Eok : p_ref03_constants_E.Ok Try.prog := AE.of_ok (all_cons ty71_ok (all_cons ty105_ok all_nil)) all_nil
theorem p_ref03_constants_ok {g : Ds [] → Option (Rs [.xs (.int .u64) 24])} (hg : ∀ x r, g x = some r → ∃ N, p_ref03_constants N x = some r) : SigOk Try.prog 70 ⟨[], [.xs (.int .u64) 24], g⟩ :=
  fun_of (E := p_ref03_constants_E) (H := p_ref03_constants_H) (L := fun N => LT.nil) (c := p_ref03_constants_c) (ks := p_ref03_constants_ks) (rs := p_ref03_constants_rs) (F := p_ref03_constants) (p_ref03_constants_Eok) mix Try.func70 (by kernel_rfl) (fun N => OkAll.nil) p_ref03_constants_eq hg
noncomputable abbrev Z_bits_RotateLeft64 : Sig := ⟨[.int .u64, .int .i64], [.int .u64], g_bits_RotateLeft64⟩
noncomputable def p_keccak_mixed_E : AE := AE.of [(3, ty3), (71, ty71), (72, ty72), (109, ty109), (116, ty116)] [(78, Z_bits_RotateLeft64)]
noncomputable def p_keccak_mixed_H : Hints := [(3, [1, 2, 4, 5, 6, 15]), (8, [1, 2, 4, 5, 6, 44]), (14, [1, 2, 4, 6, 9, 62]), (20, [2, 4, 9, 93]), (2000000, [1, 2, 4, 5, 6]), (2000001, [1, 2, 4, 5, 6, 15]), (2000002, [1, 2, 4, 6]), (2000003, [1, 2, 4, 5, 6, 44]), (2000004, [2, 4, 9]), (2000005, [1, 2, 4, 6, 9, 62]), (2000006, [2, 4]), (2000007, [2, 4, 9, 93]), (3000000, [4])]
noncomputable def p_keccak_mixed_c : Code := (Try.f74).body.getD .skip
noncomputable def p_keccak_mixed_l3_S : Shape where
  h := { tmps := [V, .sc (.ptr 0 0 false), .sc (.ptr 1 0 false), V, .sc (.ptr 2 0 false), .sc (.ptr 3 0 false), .sc (.ptr 4 0 false), V, V, V, V, V, V, V, V, .sc (.int .i64), V, V, V, V, V, V, V, V, V, V, V, V, V, V, V, V, V, V, V, V, V, V, V, V, V, V, V, V, V, V, V, V, V, V, V, V, V, V, V, V, V, V, V, V, V, V, V, V, V, V, V, V, V, V, V, V, V, V, V, V, V, V, V, V, V, V, V, V, V, V, V, V, V, V, V, V, V, V, V, V, V, V, V, V, V, V, V, V, V, V, V, V, V, V, V, V, V, V, V, V, V, V, V, V, V, V, V], mem := [.live [.xs (.int .i64) (some 25)] (.ro), .live [.xs (.int .u64) (some 25)] (.own), .live [.xs (.int .u64) (some 25)] (.own), .live [.xs (.int .u64) (some 5)] (.own), .live [.xs (.int .u64) (some 5)] (.own)] }
  ks := [.int, .xs, .xs, .xs, .xs, .xs]
  st := fun x => { tmps := [U, .one (.sc (.ptr 0 0 none)), .one (.sc (.ptr 1 0 none)), U, .one (.sc (.ptr 2 0 none)), .one (.sc (.ptr 3 0 none)), .one (.sc (.ptr 4 0 none)), U, U, U, U, U, U, U, U, .one (.sc (.int .i64 x.1)), U, U, U, U, U, U, U, U, U, U, U, U, U, U, U, U, U, U, U, U, U, U, U, U, U, U, U, U, U, U, U, U, U, U, U, U, U, U, U, U, U, U, U, U, U, U, U, U, U, U, U, U, U, U, U, U, U, U, U, U, U, U, U, U, U, U, U, U, U, U, U, U, U, U, U, U, U, U, U, U, U, U, U, U, U, U, U, U, U, U, U, U, U, U, U, U, U, U, U, U, U, U, U, U, U, U, U], mem := [.live { segs := [.xs (.int .i64) 25 x.2.1], own := .ro }, .live { segs := [.xs (.int .u64) 25 x.2.2.1], own := .own }, .live { segs := [.xs (.int .u64) 25 x.2.2.2.1], own := .own }, .live { segs := [.xs (.int .u64) 5 x.2.2.2.2.1], own := .own }, .live { segs := [.xs (.int .u64) 5 x.2.2.2.2.2.1], own := .own }] }
noncomputable def p_keccak_mixed_l3_F (N : Nat) (β : Type) (x : (Int × List Int × List Int × List Int × List Int × List Int × Unit)) (kn : (Int × List Int × List Int × List Int × List Int × List Int × Unit) → Option β) (ke : ((List Int × List Int × List Int × List Int × List Int × Unit)) → Option β) : Option β :=
  if (x.1 < (5:Int)) then
    if 0 ≤ x.1 then (
    if x.1 < 25 then (
    if (x.1.toNat) < 25 then (
    if 0 ≤ (IntKind.i64.wrap (x.1 + (5:Int))) then (
    if (IntKind.i64.wrap (x.1 + (5:Int))) < 25 then (
    if ((IntKind.i64.wrap (x.1 + (5:Int))).toNat) < 25 then (
    if 0 ≤ (IntKind.i64.wrap (x.1 + (10:Int))) then (
    if (IntKind.i64.wrap (x.1 + (10:Int))) < 25 then (
    if ((IntKind.i64.wrap (x.1 + (10:Int))).toNat) < 25 then (
    if 0 ≤ (IntKind.i64.wrap (x.1 + (15:Int))) then (
    if (IntKind.i64.wrap (x.1 + (15:Int))) < 25 then (
    if ((IntKind.i64.wrap (x.1 + (15:Int))).toNat) < 25 then (
    if 0 ≤ (IntKind.i64.wrap (x.1 + (20:Int))) then (
    if (IntKind.i64.wrap (x.1 + (20:Int))) < 25 then (
    if ((IntKind.i64.wrap (x.1 + (20:Int))).toNat) < 25 then (
    if 0 ≤ x.1 then (
    if x.1 < 5 then (
    if (x.1.toNat) < 5 then (
    kn ((IntKind.i64.wrap (x.1 + (1:Int))), x.2.1, x.2.2.1, x.2.2.2.1, (List.set x.2.2.2.2.1 (x.1.toNat) (ixor IntKind.u64 (ixor IntKind.u64 (ixor IntKind.u64 (ixor IntKind.u64 (List.getD x.2.2.1 (x.1.toNat) 0) (List.getD x.2.2.1 ((IntKind.i64.wrap (x.1 + (5:Int))).toNat) 0)) (List.getD x.2.2.1 ((IntKind.i64.wrap (x.1 + (10:Int))).toNat) 0)) (List.getD x.2.2.1 ((IntKind.i64.wrap (x.1 + (15:Int))).toNat) 0)) (List.getD x.2.2.1 ((IntKind.i64.wrap (x.1 + (20:Int))).toNat) 0))), x.2.2.2.2.2.1, ())) else none) else none) else none) else none) else none) else none) else none) else none) else none) else none) else none) else none) else none) else none) else none) else none) else none) else none
  else
    ke (x.2.1, x.2.2.1, x.2.2.2.1, x.2.2.2.2.1, x.2.2.2.2.2.1, ())
noncomputable def p_keccak_mixed_l3_go : Go' ((List Int × List Int × List Int × List Int × List Int × Unit)) := fun y K => K (.exit 0) { tmps := [U, .one (.sc (.ptr 0 0 none)), .one (.sc (.ptr 1 0 none)), U, .one (.sc (.ptr 2 0 none)), .one (.sc (.ptr 3 0 none)), .one (.sc (.ptr 4 0 none)), U, U, U, U, U, U, U, U, U, U, U, U, U, U, U, U, U, U, U, U, U, U, U, U, U, U, U, U, U, U, U, U, U, U, U, U, U, U, U, U, U, U, U, U, U, U, U, U, U, U, U, U, U, U, U, U, U, U, U, U, U, U, U, U, U, U, U, U, U, U, U, U, U, U, U, U, U, U, U, U, U, U, U, U, U, U, U, U, U, U, U, U, U, U, U, U, U, U, U, U, U, U, U, U, U, U, U, U, U, U, U, U, U, U, U, U], mem := [.live { segs := [.xs (.int .i64) 25 y.1], own := .ro }, .live { segs := [.xs (.int .u64) 25 y.2.1], own := .own }, .live { segs := [.xs (.int .u64) 25 y.2.2.1], own := .own }, .live { segs := [.xs (.int .u64) 5 y.2.2.2.1], own := .own }, .live { segs := [.xs (.int .u64) 5 y.2.2.2.2.1], own := .own }] }
noncomputable def p_keccak_mixed_l3_L (N : Nat) : LT := upd (LT.nil) 3 (loopE p_keccak_mixed_l3_S N (p_keccak_mixed_l3_F N) p_keccak_mixed_l3_go)
theorem p_keccak_mixed_l3_ok (N : Nat) : OkAll p_keccak_mixed_E p_keccak_mixed_H N (p_keccak_mixed_l3_L N) (subs p_keccak_mixed_c) :=
  addLoop (c := theLoop 3 p_keccak_mixed_c) (OkAll.nil) (by kernel_rfl) (fun x => by kernel_rfl) (fun β x kn ke => by kernel_rfl)
noncomputable def p_keccak_mixed_l8_S : Shape where
  h := { tmps := [V, .sc (.ptr 0 0 false), .sc (.ptr 1 0 false), V, .sc (.ptr 2 0 false), .sc (.ptr 3 0 false), .sc (.ptr 4 0 false), V, V, V, V, V, V, V, V, V, V, V, V, V, V, V, V, V, V, V, V, V, V, V, V, V, V, V, V, V, V, V, V, V, V, V, V, V, .sc (.int .i64), V, V, V, V, V, V, V, V, V, V, V, V, V, V, V, V, V, V, V, V, V, V, V, V, V, V, V, V, V, V, V, V, V, V, V, V, V, V, V, V, V, V, V, V, V, V, V, V, V, V, V, V, V, V, V, V, V, V, V, V, V, V, V, V, V, V, V, V, V, V, V, V, V, V, V, V, V, V], mem := [.live [.xs (.int .i64) (some 25)] (.ro), .live [.xs (.int .u64) (some 25)] (.own), .live [.xs (.int .u64) (some 25)] (.own), .live [.xs (.int .u64) (some 5)] (.own), .live [.xs (.int .u64) (some 5)] (.own)] }
  ks := [.int, .xs, .xs, .xs, .xs, .xs]
  st := fun x => { tmps := [U, .one (.sc (.ptr 0 0 none)), .one (.sc (.ptr 1 0 none)), U, .one (.sc (.ptr 2 0 none)), .one (.sc (.ptr 3 0 none)), .one (.sc (.ptr 4 0 none)), U, U, U, U, U, U, U, U, U, U, U, U, U, U, U, U, U, U, U, U, U, U, U, U, U, U, U, U, U, U, U, U, U, U, U, U, U, .one (.sc (.int .i64 x.1)), U, U, U, U, U, U, U, U, U, U, U, U, U, U, U, U, U, U, U, U, U, U, U, U, U, U, U, U, U, U, U, U, U, U, U, U, U, U, U, U, U, U, U, U, U, U, U, U, U, U, U, U, U, U, U, U, U, U, U, U, U, U, U, U, U, U, U, U, U, U, U, U, U, U, U, U, U, U], mem := [.live { segs := [.xs (.int .i64) 25 x.2.1], own := .ro }, .live { segs := [.xs (.int .u64) 25 x.2.2.1], own := .own }, .live { segs := [.xs (.int .u64) 25 x.2.2.2.1], own := .own }, .live { segs := [.xs (.int .u64) 5 x.2.2.2.2.1], own := .own }, .live { segs := [.xs (.int .u64) 5 x.2.2.2.2.2.1], own := .own }] }
noncomputable def p_keccak_mixed_l8_F (N : Nat) (β : Type) (x : (Int × List Int × List Int × List Int × List Int × List Int × Unit)) (kn : (Int × List Int × List Int × List Int × List Int × List Int × Unit) → Option β) (ke : ((List Int × List Int × List Int × List Int × Unit)) → Option β) : Option β :=
  if (x.1 < (5:Int)) then
    if 0 ≤ (Int.tmod (IntKind.i64.wrap (x.1 + (4:Int))) (5:Int)) then (
    if (Int.tmod (IntKind.i64.wrap (x.1 + (4:Int))) (5:Int)) < 5 then (
    if ((Int.tmod (IntKind.i64.wrap (x.1 + (4:Int))) (5:Int)).toNat) < 5 then (
    if 0 ≤ (Int.tmod (IntKind.i64.wrap (x.1 + (1:Int))) (5:Int)) then (
    if (Int.tmod (IntKind.i64.wrap (x.1 + (1:Int))) (5:Int)) < 5 then (
    if ((Int.tmod (IntKind.i64.wrap (x.1 + (1:Int))) (5:Int)).toNat) < 5 then (
    (g_bits_RotateLeft64 ((List.getD x.2.2.2.2.1 ((Int.tmod (IntKind.i64.wrap (x.1 + (1:Int))) (5:Int)).toNat) 0), (1:Int), ())).bind fun r2 => (
    if 0 ≤ x.1 then (
    if x.1 < 5 then (
    if (x.1.toNat) < 5 then (
    kn ((IntKind.i64.wrap (x.1 + (1:Int))), x.2.1, x.2.2.1, x.2.2.2.1, x.2.2.2.2.1, (List.set x.2.2.2.2.2.1 (x.1.toNat) (ixor IntKind.u64 (List.getD x.2.2.2.2.1 ((Int.tmod (IntKind.i64.wrap (x.1 + (4:Int))) (5:Int)).toNat) 0) r2)), ())) else none) else none) else none)) else none) else none) else none) else none) else none) else none
  else
    ke (x.2.1, x.2.2.1, x.2.2.2.1, x.2.2.2.2.2.1, ())
noncomputable def p_keccak_mixed_l8_go : Go' ((List Int × List Int × List Int × List Int × Unit)) := fun y K => K (.exit 2) { tmps := [U, .one (.sc (.ptr 0 0 none)), .one (.sc (.ptr 1 0 none)), U, .one (.sc (.ptr 2 0 none)), U, .one (.sc (.ptr 3 0 none)), U, U, U, U, U, U, U, U, U, U, U, U, U, U, U, U, U, U, U, U, U, U, U, U, U, U, U, U, U, U, U, U, U, U, U, U, U, U, U, U, U, U, U, U, U, U, U, U, U, U, U, U, U, U, U, U, U, U, U, U, U, U, U, U, U, U, U, U, U, U, U, U, U, U, U, U, U, U, U, U, U, U, U, U, U, U, U, U, U, U, U, U, U, U, U, U, U, U, U, U, U, U, U, U, U, U, U, U, U, U, U, U, U, U, U, U], mem := [.live { segs := [.xs (.int .i64) 25 y.1], own := .ro }, .live { segs := [.xs (.int .u64) 25 y.2.1], own := .own }, .live { segs := [.xs (.int .u64) 25 y.2.2.1], own := .own }, .live { segs := [.xs (.int .u64) 5 y.2.2.2.1], own := .own }] }
noncomputable def p_keccak_mixed_l8_L (N : Nat) : LT := upd (p_keccak_mixed_l3_L N) 8 (loopE p_keccak_mixed_l8_S N (p_keccak_mixed_l8_F N) p_keccak_mixed_l8_go)
theorem p_keccak_mixed_l8_ok (N : Nat) : OkAll p_keccak_mixed_E p_keccak_mixed_H N (p_keccak_mixed_l8_L N) (subs p_keccak_mixed_c) :=
  addLoop (c := theLoop 8 p_keccak_mixed_c) (p_keccak_mixed_l3_ok N) (by kernel_rfl) (fun x => by kernel_rfl) (fun β x kn ke => by kernel_rfl)
noncomputable def p_keccak_mixed_l14_S : Shape where
  h := { tmps := [V, .sc (.ptr 0 0 false), .sc (.ptr 1 0 false), V, .sc (.ptr 2 0 false), V, .sc (.ptr 3 0 false), V, V, .sc (.ptr 4 0 false), V, V, V, V, V, V, V, V, V, V, V, V, V, V, V, V, V, V, V, V, V, V, V, V, V, V, V, V, V, V, V, V, V, V, V, V, V, V, V, V, V, V, V, V, V, V, V, V, V, V, V, V, .sc (.int .i64), V, V, V, V, V, V, V, V, V, V, V, V, V, V, V, V, V, V, V, V, V, V, V, V, V, V, V, V, V, V, V, V, V, V, V, V, V, V, V, V, V, V, V, V, V, V, V, V, V, V, V, V, V, V, V, V, V, V, V, V], mem := [.live [.xs (.int .i64) (some 25)] (.ro), .live [.xs (.int .u64) (some 25)] (.own), .live [.xs (.int .u64) (some 25)] (.own), .live [.xs (.int .u64) (some 5)] (.own), .live [.xs (.int .u64) (some 25)] (.own)] }
  ks := [.int, .xs, .xs, .xs, .xs, .xs]
  st := fun x => { tmps := [U, .one (.sc (.ptr 0 0 none)), .one (.sc (.ptr 1 0 none)), U, .one (.sc (.ptr 2 0 none)), U, .one (.sc (.ptr 3 0 none)), U, U, .one (.sc (.ptr 4 0 none)), U, U, U, U, U, U, U, U, U, U, U, U, U, U, U, U, U, U, U, U, U, U, U, U, U, U, U, U, U, U, U, U, U, U, U, U, U, U, U, U, U, U, U, U, U, U, U, U, U, U, U, U, .one (.sc (.int .i64 x.1)), U, U, U, U, U, U, U, U, U, U, U, U, U, U, U, U, U, U, U, U, U, U, U, U, U, U, U, U, U, U, U, U, U, U, U, U, U, U, U, U, U, U, U, U, U, U, U, U, U, U, U, U, U, U, U, U, U, U, U, U], mem := [.live { segs := [.xs (.int .i64) 25 x.2.1], own := .ro }, .live { segs := [.xs (.int .u64) 25 x.2.2.1], own := .own }, .live { segs := [.xs (.int .u64) 25 x.2.2.2.1], own := .own }, .live { segs := [.xs (.int .u64) 5 x.2.2.2.2.1], own := .own }, .live { segs := [.xs (.int .u64) 25 x.2.2.2.2.2.1], own := .own }] }
noncomputable def p_keccak_mixed_l14_F (N : Nat) (β : Type) (x : (Int × List Int × List Int × List Int × List Int × List Int × Unit)) (kn : (Int × List Int × List Int × List Int × List Int × List Int × Unit) → Option β) (ke : ((List Int × List Int × List Int × Unit)) → Option β) : Option β :=
  if (x.1 < (25:Int)) then
    if 0 ≤ x.1 then (
    if x.1 < 25 then (
    if (x.1.toNat) < 25 then (
    if 0 ≤ (Int.tmod x.1 (5:Int)) then (
    if (Int.tmod x.1 (5:Int)) < 5 then (
    if ((Int.tmod x.1 (5:Int)).toNat) < 5 then (
    if 0 ≤ x.1 then (
    if x.1 < 25 then (
    if (x.1.toNat) < 25 then (
    (g_bits_RotateLeft64 ((ixor IntKind.u64 (List.getD x.2.2.1 (x.1.toNat) 0) (List.getD x.2.2.2.2.1 ((Int.tmod x.1 (5:Int)).toNat) 0)), (List.getD x.2.1 (x.1.toNat) 0), ())).bind fun r4 => (
    if 0 ≤ (IntKind.i64.wrap ((IntKind.i64.wrap ((5:Int) * (Int.tmod (IntKind.i64.wrap ((IntKind.i64.wrap ((2:Int) * (Int.tmod x.1 (5:Int)))) + (IntKind.i64.wrap ((3:Int) * (IntKind.i64.wrap (Int.tdiv x.1 (5:Int))))))) (5:Int)))) + (IntKind.i64.wrap (Int.tdiv x.1 (5:Int))))) then (
    if (IntKind.i64.wrap ((IntKind.i64.wrap ((5:Int) * (Int.tmod (IntKind.i64.wrap ((IntKind.i64.wrap ((2:Int) * (Int.tmod x.1 (5:Int)))) + (IntKind.i64.wrap ((3:Int) * (IntKind.i64.wrap (Int.tdiv x.1 (5:Int))))))) (5:Int)))) + (IntKind.i64.wrap (Int.tdiv x.1 (5:Int))))) < 25 then (
    if ((IntKind.i64.wrap ((IntKind.i64.wrap ((5:Int) * (Int.tmod (IntKind.i64.wrap ((IntKind.i64.wrap ((2:Int) * (Int.tmod x.1 (5:Int)))) + (IntKind.i64.wrap ((3:Int) * (IntKind.i64.wrap (Int.tdiv x.1 (5:Int))))))) (5:Int)))) + (IntKind.i64.wrap (Int.tdiv x.1 (5:Int))))).toNat) < 25 then (
    kn ((IntKind.i64.wrap (x.1 + (1:Int))), x.2.1, x.2.2.1, x.2.2.2.1, x.2.2.2.2.1, (List.set x.2.2.2.2.2.1 ((IntKind.i64.wrap ((IntKind.i64.wrap ((5:Int) * (Int.tmod (IntKind.i64.wrap ((IntKind.i64.wrap ((2:Int) * (Int.tmod x.1 (5:Int)))) + (IntKind.i64.wrap ((3:Int) * (IntKind.i64.wrap (Int.tdiv x.1 (5:Int))))))) (5:Int)))) + (IntKind.i64.wrap (Int.tdiv x.1 (5:Int))))).toNat) r4), ())) else none) else none) else none)) else none) else none) else none) else none) else none) else none) else none) else none) else none
  else
    ke (x.2.2.1, x.2.2.2.1, x.2.2.2.2.2.1, ())
noncomputable def p_keccak_mixed_l14_go : Go' ((List Int × List Int × List Int × Unit)) := fun y K => K (.exit 4) { tmps := [U, U, .one (.sc (.ptr 0 0 none)), U, .one (.sc (.ptr 1 0 none)), U, U, U, U, .one (.sc (.ptr 2 0 none)), U, U, U, U, U, U, U, U, U, U, U, U, U, U, U, U, U, U, U, U, U, U, U, U, U, U, U, U, U, U, U, U, U, U, U, U, U, U, U, U, U, U, U, U, U, U, U, U, U, U, U, U, U, U, U, U, U, U, U, U, U, U, U, U, U, U, U, U, U, U, U, U, U, U, U, U, U, U, U, U, U, U, U, U, U, U, U, U, U, U, U, U, U, U, U, U, U, U, U, U, U, U, U, U, U, U, U, U, U, U, U, U, U], mem := [.live { segs := [.xs (.int .u64) 25 y.1], own := .own }, .live { segs := [.xs (.int .u64) 25 y.2.1], own := .own }, .live { segs := [.xs (.int .u64) 25 y.2.2.1], own := .own }] }
noncomputable def p_keccak_mixed_l14_L (N : Nat) : LT := upd (p_keccak_mixed_l8_L N) 14 (loopE p_keccak_mixed_l14_S N (p_keccak_mixed_l14_F N) p_keccak_mixed_l14_go)
theorem p_keccak_mixed_l14_ok (N : Nat) : OkAll p_keccak_mixed_E p_keccak_mixed_H N (p_keccak_mixed_l14_L N) (subs p_keccak_mixed_c) :=
  addLoop (c := theLoop 14 p_keccak_mixed_c) (p_keccak_mixed_l8_ok N) (by kernel_rfl) (fun x => by kernel_rfl) (fun β x kn ke => by kernel_rfl)
noncomputable def p_keccak_mixed_l20_S : Shape where
  h := { tmps := [V, V, .sc (.ptr 0 0 false), V, .sc (.ptr 1 0 false), V, V, V, V, .sc (.ptr 2 0 false), V, V, V, V, V, V, V, V, V, V, V, V, V, V, V, V, V, V, V, V, V, V, V, V, V, V, V, V, V, V, V, V, V, V, V, V, V, V, V, V, V, V, V, V, V, V, V, V, V, V, V, V, V, V, V, V, V, V, V, V, V, V, V, V, V, V, V, V, V, V, V, V, V, V, V, V, V, V, V, V, V, V, V, .sc (.int .i64), V, V, V, V, V, V, V, V, V, V, V, V, V, V, V, V, V, V, V, V, V, V, V, V, V, V, V, V, V], mem := [.live [.xs (.int .u64) (some 25)] (.own), .live [.xs (.int .u64) (some 25)] (.own), .live [.xs (.int .u64) (some 25)] (.own)] }
  ks := [.int, .xs, .xs, .xs]
  st := fun x => { tmps := [U, U, .one (.sc (.ptr 0 0 none)), U, .one (.sc (.ptr 1 0 none)), U, U, U, U, .one (.sc (.ptr 2 0 none)), U, U, U, U, U, U, U, U, U, U, U, U, U, U, U, U, U, U, U, U, U, U, U, U, U, U, U, U, U, U, U, U, U, U, U, U, U, U, U, U, U, U, U, U, U, U, U, U, U, U, U, U, U, U, U, U, U, U, U, U, U, U, U, U, U, U, U, U, U, U, U, U, U, U, U, U, U, U, U, U, U, U, U, .one (.sc (.int .i64 x.1)), U, U, U, U, U, U, U, U, U, U, U, U, U, U, U, U, U, U, U, U, U, U, U, U, U, U, U, U, U], mem := [.live { segs := [.xs (.int .u64) 25 x.2.1], own := .own }, .live { segs := [.xs (.int .u64) 25 x.2.2.1], own := .own }, .live { segs := [.xs (.int .u64) 25 x.2.2.2.1], own := .own }] }
noncomputable def p_keccak_mixed_l20_F (N : Nat) (β : Type) (x : (Int × List Int × List Int × List Int × Unit)) (kn : (Int × List Int × List Int × List Int × Unit) → Option β) (ke : ((List Int × List Int × Unit)) → Option β) : Option β :=
  if (x.1 < (25:Int)) then
    if 0 ≤ x.1 then (
    if x.1 < 25 then (
    if (x.1.toNat) < 25 then (
    if 0 ≤ (IntKind.i64.wrap ((IntKind.i64.wrap ((IntKind.i64.wrap (Int.tdiv x.1 (5:Int))) * (5:Int))) + (Int.tmod (IntKind.i64.wrap (x.1 + (1:Int))) (5:Int)))) then (
    if (IntKind.i64.wrap ((IntKind.i64.wrap ((IntKind.i64.wrap (Int.tdiv x.1 (5:Int))) * (5:Int))) + (Int.tmod (IntKind.i64.wrap (x.1 + (1:Int))) (5:Int)))) < 25 then (
    if ((IntKind.i64.wrap ((IntKind.i64.wrap ((IntKind.i64.wrap (Int.tdiv x.1 (5:Int))) * (5:Int))) + (Int.tmod (IntKind.i64.wrap (x.1 + (1:Int))) (5:Int)))).toNat) < 25 then (
    if 0 ≤ (IntKind.i64.wrap ((IntKind.i64.wrap ((IntKind.i64.wrap (Int.tdiv x.1 (5:Int))) * (5:Int))) + (Int.tmod (IntKind.i64.wrap (x.1 + (2:Int))) (5:Int)))) then (
    if (IntKind.i64.wrap ((IntKind.i64.wrap ((IntKind.i64.wrap (Int.tdiv x.1 (5:Int))) * (5:Int))) + (Int.tmod (IntKind.i64.wrap (x.1 + (2:Int))) (5:Int)))) < 25 then (
    if ((IntKind.i64.wrap ((IntKind.i64.wrap ((IntKind.i64.wrap (Int.tdiv x.1 (5:Int))) * (5:Int))) + (Int.tmod (IntKind.i64.wrap (x.1 + (2:Int))) (5:Int)))).toNat) < 25 then (
    if 0 ≤ x.1 then (
    if x.1 < 25 then (
    if (x.1.toNat) < 25 then (
    kn ((IntKind.i64.wrap (x.1 + (1:Int))), (List.set x.2.1 (x.1.toNat) (ixor IntKind.u64 (List.getD x.2.2.2.1 (x.1.toNat) 0) (iand IntKind.u64 (ixor IntKind.u64 (if IntKind.u64.signed then -1 else IntKind.u64.max) (List.getD x.2.2.2.1 ((IntKind.i64.wrap ((IntKind.i64.wrap ((IntKind.i64.wrap (Int.tdiv x.1 (5:Int))) * (5:Int))) + (Int.tmod (IntKind.i64.wrap (x.1 + (1:Int))) (5:Int)))).toNat) 0)) (List.getD x.2.2.2.1 ((IntKind.i64.wrap ((IntKind.i64.wrap ((IntKind.i64.wrap (Int.tdiv x.1 (5:Int))) * (5:Int))) + (Int.tmod (IntKind.i64.wrap (x.1 + (2:Int))) (5:Int)))).toNat) 0)))), x.2.2.1, x.2.2.2.1, ())) else none) else none) else none) else none) else none) else none) else none) else none) else none) else none) else none) else none
  else
    ke (x.2.1, x.2.2.1, ())
noncomputable def p_keccak_mixed_l20_go : Go' ((List Int × List Int × Unit)) := fun y K => K (.exit 6) { tmps := [U, U, .one (.sc (.ptr 0 0 none)), U, .one (.sc (.ptr 1 0 none)), U, U, U, U, U, U, U, U, U, U, U, U, U, U, U, U, U, U, U, U, U, U, U, U, U, U, U, U, U, U, U, U, U, U, U, U, U, U, U, U, U, U, U, U, U, U, U, U, U, U, U, U, U, U, U, U, U, U, U, U, U, U, U, U, U, U, U, U, U, U, U, U, U, U, U, U, U, U, U, U, U, U, U, U, U, U, U, U, U, U, U, U, U, U, U, U, U, U, U, U, U, U, U, U, U, U, U, U, U, U, U, U, U, U, U, U, U, U], mem := [.live { segs := [.xs (.int .u64) 25 y.1], own := .own }, .live { segs := [.xs (.int .u64) 25 y.2.1], own := .own }] }
noncomputable def p_keccak_mixed_l20_L (N : Nat) : LT := upd (p_keccak_mixed_l14_L N) 20 (loopE p_keccak_mixed_l20_S N (p_keccak_mixed_l20_F N) p_keccak_mixed_l20_go)
theorem p_keccak_mixed_l20_ok (N : Nat) : OkAll p_keccak_mixed_E p_keccak_mixed_H N (p_keccak_mixed_l20_L N) (subs p_keccak_mixed_c) :=
  addLoop (c := theLoop 20 p_keccak_mixed_c) (p_keccak_mixed_l14_ok N) (by kernel_rfl) (fun x => by kernel_rfl) (fun β x kn ke => by kernel_rfl)
abbrev p_keccak_mixed_ks : List Kd := [.xs (.int .u64) 25, .rp (.xs (.int .i64) 25)]
abbrev p_keccak_mixed_rs : List Kd := [.xs (.int .u64) 25]
noncomputable def p_keccak_mixed (N : Nat) (x : List Int × List Int × Unit) : Option (List Int) :=
  iter (p_keccak_mixed_l3_F N) N ((0:Int), x.2.1, x.1, (List.replicate 25 0), (List.replicate 5 0), (List.replicate 5 0), ()) fun y1 => (
  iter (p_keccak_mixed_l8_F N) N ((0:Int), y1.1, y1.2.1, y1.2.2.1, y1.2.2.2.1, y1.2.2.2.2.1, ()) fun y3 => (
  iter (p_keccak_mixed_l14_F N) N ((0:Int), y3.1, y3.2.1, y3.2.2.1, y3.2.2.2.1, (List.replicate 25 0), ()) fun y5 => (
  iter (p_keccak_mixed_l20_F N) N ((0:Int), y5.1, y5.2.1, y5.2.2.1, ()) fun y6 => (
  some y6.1))))
theorem p_keccak_mixed_eq (N : Nat) (x : Ds [.xs (.int .u64) 25, .rp (.xs (.int .i64) 25)]) : funL p_keccak_mixed_E p_keccak_mixed_H (p_keccak_mixed_l20_L N) N Try.f74 p_keccak_mixed_c [.xs (.int .u64) 25, .rp (.xs (.int .i64) 25)] [.xs (.int .u64) 25] x = p_keccak_mixed N x := by kernel_rfl
theorem p_keccak_mixed_Eok (e0 : SigOk Try.prog 78 Z_bits_RotateLeft64) : p_keccak_mixed_E.Ok Try.prog := AE.of_ok (all_cons ty3_ok (all_cons ty71_ok (all_cons ty72_ok (all_cons ty109_ok (all_cons ty116_ok all_nil))))) (all_cons ⟨e0, enters_bits_RotateLeft64⟩ all_nil)
theorem p_keccak_mixed_ok (e0 : SigOk Try.prog 78 Z_bits_RotateLeft64) {g : Ds [.xs (.int .u64) 25, .rp (.xs (.int .i64) 25)] → Option (Rs [.xs (.int .u64) 25])} (hg : ∀ x r, g x = some r → ∃ N, p_keccak_mixed N x = some r) : SigOk Try.prog 74 ⟨[.xs (.int .u64) 25, .rp (.xs (.int .i64) 25)], [.xs (.int .u64) 25], g⟩ :=
  fun_of (E := p_keccak_mixed_E) (H := p_keccak_mixed_H) (L := fun N => p_keccak_mixed_l20_L N) (c := p_keccak_mixed_c) (ks := p_keccak_mixed_ks) (rs := p_keccak_mixed_rs) (F := p_keccak_mixed) (p_keccak_mixed_Eok e0) mix Try.func74 (by kernel_rfl) (fun N => p_keccak_mixed_l20_ok N) p_keccak_mixed_eq hg
noncomputable abbrev Z_ref03_turn : Sig := ⟨[.int .u64, .int .i64], [.int .u64], g_ref03_turn⟩
noncomputable def p_ref03_round_E : AE := AE.of [(71, ty71), (72, ty72), (116, ty116)] [(77, Z_ref03_turn)]
noncomputable def p_ref03_round_H : Hints := [(3, [1, 2, 4, 5, 16]), (8, [1, 2, 4, 5, 29]), (16, [1, 2, 4, 8, 9, 10, 53]), (23, [1, 2, 4, 8, 85]), (2000000, [1, 2, 4, 5]), (2000001, [1, 2, 4, 5, 16]), (2000002, [1, 2, 4]), (2000003, [1, 2, 4, 5, 29]), (2000004, [1, 2, 4, 8]), (2000005, [1, 2, 4, 8, 9, 10, 53]), (2000006, [1, 2, 4]), (2000007, [1, 2, 4, 8, 85]), (3000000, [4])]
noncomputable def p_ref03_round_c : Code := (Try.f71).body.getD .skip
noncomputable def p_ref03_round_l3_S : Shape where
  h := { tmps := [V, .sc (.int .u64), .sc (.ptr 0 0 false), V, .sc (.ptr 1 0 false), .sc (.ptr 2 0 false), V, V, V, V, V, V, V, V, V, V, .sc (.int .i64), V, V, V, V, V, V, V, V, V, V, V, V, V, V, V, V, V, V, V, V, V, V, V, V, V, V, V, V, V, V, V, V, V, V, V, V, V, V, V, V, V, V, V, V, V, V, V, V, V, V, V, V, V, V, V, V, V, V, V, V, V, V, V, V, V, V, V, V, V, V, V, V, V, V, V, V, V, V, V, V, V, V, V, V, V, V, V, V, V, V, V, V, V, V, V, V, V, V, V, V, V, V, V], mem := [.live [.xs (.int .u64) (some 25)] (.own), .live [.xs (.int .u64) (some 25)] (.own), .live [.xs (.int .u64) (some 5)] (.own)] }
  ks := [.int, .int, .xs, .xs, .xs]
  st := fun x => { tmps := [U, .one (.sc (.int .u64 x.1)), .one (.sc (.ptr 0 0 none)), U, .one (.sc (.ptr 1 0 none)), .one (.sc (.ptr 2 0 none)), U, U, U, U, U, U, U, U, U, U, .one (.sc (.int .i64 x.2.1)), U, U, U, U, U, U, U, U, U, U, U, U, U, U, U, U, U, U, U, U, U, U, U, U, U, U, U, U, U, U, U, U, U, U, U, U, U, U, U, U, U, U, U, U, U, U, U, U, U, U, U, U, U, U, U, U, U, U, U, U, U, U, U, U, U, U, U, U, U, U, U, U, U, U, U, U, U, U, U, U, U, U, U, U, U, U, U, U, U, U, U, U, U, U, U, U, U, U, U, U, U, U, U], mem := [.live { segs := [.xs (.int .u64) 25 x.2.2.1], own := .own }, .live { segs := [.xs (.int .u64) 25 x.2.2.2.1], own := .own }, .live { segs := [.xs (.int .u64) 5 x.2.2.2.2.1], own := .own }] }
noncomputable def p_ref03_round_l3_F (N : Nat) (β : Type) (x : (Int × Int × List Int × List Int × List Int × Unit)) (kn : (Int × Int × List Int × List Int × List Int × Unit) → Option β) (ke : ((Int × List Int × List Int × List Int × Unit)) → Option β) : Option β :=
  if (x.2.1 < (25:Int)) then
    if 0 ≤ (Int.tmod x.2.1 (5:Int)) then (
    if (Int.tmod x.2.1 (5:Int)) < 5 then (
    if ((Int.tmod x.2.1 (5:Int)).toNat) < 5 then (
    if 0 ≤ x.2.1 then (
    if x.2.1 < 25 then (
    if (x.2.1.toNat) < 25 then (
    if 0 ≤ (Int.tmod x.2.1 (5:Int)) then (
    if (Int.tmod x.2.1 (5:Int)) < 5 then (
    if ((Int.tmod x.2.1 (5:Int)).toNat) < 5 then (
    kn (x.1, (IntKind.i64.wrap (x.2.1 + (1:Int))), x.2.2.1, x.2.2.2.1, (List.set x.2.2.2.2.1 ((Int.tmod x.2.1 (5:Int)).toNat) (ixor IntKind.u64 (List.getD x.2.2.2.2.1 ((Int.tmod x.2.1 (5:Int)).toNat) 0) (List.getD x.2.2.1 (x.2.1.toNat) 0))), ())) else none) else none) else none) else none) else none) else none) else none) else none) else none
  else
    ke (x.1, x.2.2.1, x.2.2.2.1, x.2.2.2.2.1, ())
noncomputable def p_ref03_round_l3_go : Go' ((Int × List Int × List Int × List Int × Unit)) := fun y K => K (.exit 0) { tmps := [U, .one (.sc (.int .u64 y.1)), .one (.sc (.ptr 0 0 none)), U, .one (.sc (.ptr 1 0 none)), .one (.sc (.ptr 2 0 none)), U, U, U, U, U, U, U, U, U, U, U, U, U, U, U, U, U, U, U, U, U, U, U, U, U, U, U, U, U, U, U, U, U, U, U, U, U, U, U, U, U, U, U, U, U, U, U, U, U, U, U, U, U, U, U, U, U, U, U, U, U, U, U, U, U, U, U, U, U, U, U, U, U, U, U, U, U, U, U, U, U, U, U, U, U, U, U, U, U, U, U, U, U, U, U, U, U, U, U, U, U, U, U, U, U, U, U, U, U, U, U, U, U, U], mem := [.live { segs := [.xs (.int .u64) 25 y.2.1], own := .own }, .live { segs := [.xs (.int .u64) 25 y.2.2.1], own := .own }, .live { segs := [.xs (.int .u64) 5 y.2.2.2.1], own := .own }] }
noncomputable def p_ref03_round_l3_L (N : Nat) : LT := upd (LT.nil) 3 (loopE p_ref03_round_l3_S N (p_ref03_round_l3_F N) p_ref03_round_l3_go)
theorem p_ref03_round_l3_ok (N : Nat) : OkAll p_ref03_round_E p_ref03_round_H N (p_ref03_round_l3_L N) (subs p_ref03_round_c) :=
  addLoop (c := theLoop 3 p_ref03_round_c) (OkAll.nil) (by kernel_rfl) (fun x => by kernel_rfl) (fun β x kn ke => by kernel_rfl)
noncomputable def p_ref03_round_l8_S : Shape where
  h := { tmps := [V, .sc (.int .u64), .sc (.ptr 0 0 false), V, .sc (.ptr 1 0 false), .sc (.ptr 2 0 false), V, V, V, V, V, V, V, V, V, V, V, V, V, V, V, V, V, V, V, V, V, V, V, .sc (.int .i64), V, V, V, V, V, V, V, V, V, V, V, V, V, V, V, V, V, V, V, V, V, V, V, V, V, V, V, V, V, V, V, V, V, V, V, V, V, V, V, V, V, V, V, V, V, V, V, V, V, V, V, V, V, V, V, V, V, V, V, V, V, V, V, V, V, V, V, V, V, V, V, V, V, V, V, V, V, V, V, V, V, V, V, V, V, V, V, V, V, V], mem := [.live [.xs (.int .u64) (some 25)] (.own), .live [.xs (.int .u64) (some 25)] (.own), .live [.xs (.int .u64) (some 5)] (.own)] }
  ks := [.int, .int, .xs, .xs, .xs]
  st := fun x => { tmps := [U, .one (.sc (.int .u64 x.1)), .one (.sc (.ptr 0 0 none)), U, .one (.sc (.ptr 1 0 none)), .one (.sc (.ptr 2 0 none)), U, U, U, U, U, U, U, U, U, U, U, U, U, U, U, U, U, U, U, U, U, U, U, .one (.sc (.int .i64 x.2.1)), U, U, U, U, U, U, U, U, U, U, U, U, U, U, U, U, U, U, U, U, U, U, U, U, U, U, U, U, U, U, U, U, U, U, U, U, U, U, U, U, U, U, U, U, U, U, U, U, U, U, U, U, U, U, U, U, U, U, U, U, U, U, U, U, U, U, U, U, U, U, U, U, U, U, U, U, U, U, U, U, U, U, U, U, U, U, U, U, U, U], mem := [.live { segs := [.xs (.int .u64) 25 x.2.2.1], own := .own }, .live { segs := [.xs (.int .u64) 25 x.2.2.2.1], own := .own }, .live { segs := [.xs (.int .u64) 5 x.2.2.2.2.1], own := .own }] }
noncomputable def p_ref03_round_l8_F (N : Nat) (β : Type) (x : (Int × Int × List Int × List Int × List Int × Unit)) (kn : (Int × Int × List Int × List Int × List Int × Unit) → Option β) (ke : ((Int × List Int × List Int × Unit)) → Option β) : Option β :=
  if (x.2.1 < (25:Int)) then
    if 0 ≤ x.2.1 then (
    if x.2.1 < 25 then (
    if (x.2.1.toNat) < 25 then (
    if 0 ≤ (Int.tmod (IntKind.i64.wrap (x.2.1 + (4:Int))) (5:Int)) then (
    if (Int.tmod (IntKind.i64.wrap (x.2.1 + (4:Int))) (5:Int)) < 5 then (
    if ((Int.tmod (IntKind.i64.wrap (x.2.1 + (4:Int))) (5:Int)).toNat) < 5 then (
    if 0 ≤ (Int.tmod (IntKind.i64.wrap (x.2.1 + (1:Int))) (5:Int)) then (
    if (Int.tmod (IntKind.i64.wrap (x.2.1 + (1:Int))) (5:Int)) < 5 then (
    if ((Int.tmod (IntKind.i64.wrap (x.2.1 + (1:Int))) (5:Int)).toNat) < 5 then (
    (g_ref03_turn ((List.getD x.2.2.2.2.1 ((Int.tmod (IntKind.i64.wrap (x.2.1 + (1:Int))) (5:Int)).toNat) 0), (1:Int), ())).bind fun r2 => (
    if 0 ≤ x.2.1 then (
    if x.2.1 < 25 then (
    if (x.2.1.toNat) < 25 then (
    kn (x.1, (IntKind.i64.wrap (x.2.1 + (1:Int))), (List.set x.2.2.1 (x.2.1.toNat) (ixor IntKind.u64 (List.getD x.2.2.1 (x.2.1.toNat) 0) (ixor IntKind.u64 (List.getD x.2.2.2.2.1 ((Int.tmod (IntKind.i64.wrap (x.2.1 + (4:Int))) (5:Int)).toNat) 0) r2))), x.2.2.2.1, x.2.2.2.2.1, ())) else none) else none) else none)) else none) else none) else none) else none) else none) else none) else none) else none) else none
  else
    ke (x.1, x.2.2.1, x.2.2.2.1, ())
noncomputable def p_ref03_round_l8_go : Go' ((Int × List Int × List Int × Unit)) := fun y K => K (.exit 2) { tmps := [U, .one (.sc (.int .u64 y.1)), .one (.sc (.ptr 0 0 none)), U, .one (.sc (.ptr 1 0 none)), U, U, U, U, U, U, U, U, U, U, U, U, U, U, U, U, U, U, U, U, U, U, U, U, U, U, U, U, U, U, U, U, U, U, U, U, U, U, U, U, U, U, U, U, U, U, U, U, U, U, U, U, U, U, U, U, U, U, U, U, U, U, U, U, U, U, U, U, U, U, U, U, U, U, U, U, U, U, U, U, U, U, U, U, U, U, U, U, U, U, U, U, U, U, U, U, U, U, U, U, U, U, U, U, U, U, U, U, U, U, U, U, U, U, U], mem := [.live { segs := [.xs (.int .u64) 25 y.2.1], own := .own }, .live { segs := [.xs (.int .u64) 25 y.2.2.1], own := .own }] }
noncomputable def p_ref03_round_l8_L (N : Nat) : LT := upd (p_ref03_round_l3_L N) 8 (loopE p_ref03_round_l8_S N (p_ref03_round_l8_F N) p_ref03_round_l8_go)
theorem p_ref03_round_l8_ok (N : Nat) : OkAll p_ref03_round_E p_ref03_round_H N (p_ref03_round_l8_L N) (subs p_ref03_round_c) :=
  addLoop (c := theLoop 8 p_ref03_round_c) (p_ref03_round_l3_ok N) (by kernel_rfl) (fun x => by kernel_rfl) (fun β x kn ke => by kernel_rfl)
noncomputable def p_ref03_round_l16_S : Shape where
  h := { tmps := [V, .sc (.int .u64), .sc (.ptr 0 0 false), V, .sc (.ptr 1 0 false), V, V, V, .sc (.ptr 2 0 false), .sc (.int .i64), .sc (.int .i64), V, V, V, V, V, V, V, V, V, V, V, V, V, V, V, V, V, V, V, V, V, V, V, V, V, V, V, V, V, V, V, V, V, V, V, V, V, V, V, V, V, V, .sc (.int .i64), V, V, V, V, V, V, V, V, V, V, V, V, V, V, V, V, V, V, V, V, V, V, V, V, V, V, V, V, V, V, V, V, V, V, V, V, V, V, V, V, V, V, V, V, V, V, V, V, V, V, V, V, V, V, V, V, V, V, V, V, V, V, V, V, V, V], mem := [.live [.xs (.int .u64) (some 25)] (.own), .live [.xs (.int .u64) (some 25)] (.own), .live [.xs (.int .u64) (some 25)] (.own)] }
  ks := [.int, .int, .int, .int, .xs, .xs, .xs]
  st := fun x => { tmps := [U, .one (.sc (.int .u64 x.1)), .one (.sc (.ptr 0 0 none)), U, .one (.sc (.ptr 1 0 none)), U, U, U, .one (.sc (.ptr 2 0 none)), .one (.sc (.int .i64 x.2.1)), .one (.sc (.int .i64 x.2.2.1)), U, U, U, U, U, U, U, U, U, U, U, U, U, U, U, U, U, U, U, U, U, U, U, U, U, U, U, U, U, U, U, U, U, U, U, U, U, U, U, U, U, U, .one (.sc (.int .i64 x.2.2.2.1)), U, U, U, U, U, U, U, U, U, U, U, U, U, U, U, U, U, U, U, U, U, U, U, U, U, U, U, U, U, U, U, U, U, U, U, U, U, U, U, U, U, U, U, U, U, U, U, U, U, U, U, U, U, U, U, U, U, U, U, U, U, U, U, U, U, U], mem := [.live { segs := [.xs (.int .u64) 25 x.2.2.2.2.1], own := .own }, .live { segs := [.xs (.int .u64) 25 x.2.2.2.2.2.1], own := .own }, .live { segs := [.xs (.int .u64) 25 x.2.2.2.2.2.2.1], own := .own }] }
noncomputable def p_ref03_round_l16_F (N : Nat) (β : Type) (x : (Int × Int × Int × Int × List Int × List Int × List Int × Unit)) (kn : (Int × Int × Int × Int × List Int × List Int × List Int × Unit) → Option β) (ke : ((Int × List Int × List Int × List Int × Unit)) → Option β) : Option β :=
  if (x.2.2.2.1 < (24:Int)) then
    if 0 ≤ (IntKind.i64.wrap ((IntKind.i64.wrap ((5:Int) * x.2.2.1)) + x.2.1)) then (
    if (IntKind.i64.wrap ((IntKind.i64.wrap ((5:Int) * x.2.2.1)) + x.2.1)) < 25 then (
    if ((IntKind.i64.wrap ((IntKind.i64.wrap ((5:Int) * x.2.2.1)) + x.2.1)).toNat) < 25 then (
    (g_ref03_turn ((List.getD x.2.2.2.2.1 ((IntKind.i64.wrap ((IntKind.i64.wrap ((5:Int) * x.2.2.1)) + x.2.1)).toNat) 0), (Int.tmod (IntKind.i64.wrap (Int.tdiv (IntKind.i64.wrap ((IntKind.i64.wrap (x.2.2.2.1 + (1:Int))) * (IntKind.i64.wrap (x.2.2.2.1 + (2:Int))))) (2:Int))) (64:Int)), ())).bind fun r4 => (
    if 0 ≤ (IntKind.i64.wrap ((IntKind.i64.wrap ((5:Int) * (Int.tmod (IntKind.i64.wrap ((IntKind.i64.wrap ((2:Int) * x.2.1)) + (IntKind.i64.wrap ((3:Int) * x.2.2.1)))) (5:Int)))) + x.2.2.1)) then (
    if (IntKind.i64.wrap ((IntKind.i64.wrap ((5:Int) * (Int.tmod (IntKind.i64.wrap ((IntKind.i64.wrap ((2:Int) * x.2.1)) + (IntKind.i64.wrap ((3:Int) * x.2.2.1)))) (5:Int)))) + x.2.2.1)) < 25 then (
    if ((IntKind.i64.wrap ((IntKind.i64.wrap ((5:Int) * (Int.tmod (IntKind.i64.wrap ((IntKind.i64.wrap ((2:Int) * x.2.1)) + (IntKind.i64.wrap ((3:Int) * x.2.2.1)))) (5:Int)))) + x.2.2.1)).toNat) < 25 then (
    kn (x.1, x.2.2.1, (Int.tmod (IntKind.i64.wrap ((IntKind.i64.wrap ((2:Int) * x.2.1)) + (IntKind.i64.wrap ((3:Int) * x.2.2.1)))) (5:Int)), (IntKind.i64.wrap (x.2.2.2.1 + (1:Int))), x.2.2.2.2.1, x.2.2.2.2.2.1, (List.set x.2.2.2.2.2.2.1 ((IntKind.i64.wrap ((IntKind.i64.wrap ((5:Int) * (Int.tmod (IntKind.i64.wrap ((IntKind.i64.wrap ((2:Int) * x.2.1)) + (IntKind.i64.wrap ((3:Int) * x.2.2.1)))) (5:Int)))) + x.2.2.1)).toNat) r4), ())) else none) else none) else none)) else none) else none) else none
  else
    ke (x.1, x.2.2.2.2.1, x.2.2.2.2.2.1, x.2.2.2.2.2.2.1, ())
noncomputable def p_ref03_round_l16_go : Go' ((Int × List Int × List Int × List Int × Unit)) := fun y K => K (.exit 4) { tmps := [U, .one (.sc (.int .u64 y.1)), .one (.sc (.ptr 0 0 none)), U, .one (.sc (.ptr 1 0 none)), U, U, U, .one (.sc (.ptr 2 0 none)), U, U, U, U, U, U, U, U, U, U, U, U, U, U, U, U, U, U, U, U, U, U, U, U, U, U, U, U, U, U, U, U, U, U, U, U, U, U, U, U, U, U, U, U, U, U, U, U, U, U, U, U, U, U, U, U, U, U, U, U, U, U, U, U, U, U, U, U, U, U, U, U, U, U, U, U, U, U, U, U, U, U, U, U, U, U, U, U, U, U, U, U, U, U, U, U, U, U, U, U, U, U, U, U, U, U, U, U, U, U, U], mem := [.live { segs := [.xs (.int .u64) 25 y.2.1], own := .own }, .live { segs := [.xs (.int .u64) 25 y.2.2.1], own := .own }, .live { segs := [.xs (.int .u64) 25 y.2.2.2.1], own := .own }] }
noncomputable def p_ref03_round_l16_L (N : Nat) : LT := upd (p_ref03_round_l8_L N) 16 (loopE p_ref03_round_l16_S N (p_ref03_round_l16_F N) p_ref03_round_l16_go)
theorem p_ref03_round_l16_ok (N : Nat) : OkAll p_ref03_round_E p_ref03_round_H N (p_ref03_round_l16_L N) (subs p_ref03_round_c) :=
  addLoop (c := theLoop 16 p_ref03_round_c) (p_ref03_round_l8_ok N) (by kernel_rfl) (fun x => by kernel_rfl) (fun β x kn ke => by kernel_rfl)
noncomputable def p_ref03_round_l23_S : Shape where
  h := { tmps := [V, .sc (.int .u64), .sc (.ptr 0 0 false), V, .sc (.ptr 1 0 false), V, V, V, .sc (.ptr 2 0 false), V, V, V, V, V, V, V, V, V, V, V, V, V, V, V, V, V, V, V, V, V, V, V, V, V, V, V, V, V, V, V, V, V, V, V, V, V, V, V, V, V, V, V, V, V, V, V, V, V, V, V, V, V, V, V, V, V, V, V, V, V, V, V, V, V, V, V, V, V, V, V, V, V, V, V, V, .sc (.int .i64), V, V, V, V, V, V, V, V, V, V, V, V, V, V, V, V, V, V, V, V, V, V, V, V, V, V, V, V, V, V, V, V, V, V], mem := [.live [.xs (.int .u64) (some 25)] (.own), .live [.xs (.int .u64) (some 25)] (.own), .live [.xs (.int .u64) (some 25)] (.own)] }
  ks := [.int, .int, .xs, .xs, .xs]
  st := fun x => { tmps := [U, .one (.sc (.int .u64 x.1)), .one (.sc (.ptr 0 0 none)), U, .one (.sc (.ptr 1 0 none)), U, U, U, .one (.sc (.ptr 2 0 none)), U, U, U, U, U, U, U, U, U, U, U, U, U, U, U, U, U, U, U, U, U, U, U, U, U, U, U, U, U, U, U, U, U, U, U, U, U, U, U, U, U, U, U, U, U, U, U, U, U, U, U, U, U, U, U, U, U, U, U, U, U, U, U, U, U, U, U, U, U, U, U, U, U, U, U, U, .one (.sc (.int .i64 x.2.1)), U, U, U, U, U, U, U, U, U, U, U, U, U, U, U, U, U, U, U, U, U, U, U, U, U, U, U, U, U, U, U, U, U, U], mem := [.live { segs := [.xs (.int .u64) 25 x.2.2.1], own := .own }, .live { segs := [.xs (.int .u64) 25 x.2.2.2.1], own := .own }, .live { segs := [.xs (.int .u64) 25 x.2.2.2.2.1], own := .own }] }
noncomputable def p_ref03_round_l23_F (N : Nat) (β : Type) (x : (Int × Int × List Int × List Int × List Int × Unit)) (kn : (Int × Int × List Int × List Int × List Int × Unit) → Option β) (ke : ((Int × List Int × List Int × Unit)) → Option β) : Option β :=
  if (x.2.1 < (25:Int)) then
    if 0 ≤ x.2.1 then (
    if x.2.1 < 25 then (
    if (x.2.1.toNat) < 25 then (
    if 0 ≤ (IntKind.i64.wrap ((IntKind.i64.wrap ((IntKind.i64.wrap (Int.tdiv x.2.1 (5:Int))) * (5:Int))) + (Int.tmod (IntKind.i64.wrap (x.2.1 + (1:Int))) (5:Int)))) then (
    if (IntKind.i64.wrap ((IntKind.i64.wrap ((IntKind.i64.wrap (Int.tdiv x.2.1 (5:Int))) * (5:Int))) + (Int.tmod (IntKind.i64.wrap (x.2.1 + (1:Int))) (5:Int)))) < 25 then (
    if ((IntKind.i64.wrap ((IntKind.i64.wrap ((IntKind.i64.wrap (Int.tdiv x.2.1 (5:Int))) * (5:Int))) + (Int.tmod (IntKind.i64.wrap (x.2.1 + (1:Int))) (5:Int)))).toNat) < 25 then (
    if 0 ≤ (IntKind.i64.wrap ((IntKind.i64.wrap ((IntKind.i64.wrap (Int.tdiv x.2.1 (5:Int))) * (5:Int))) + (Int.tmod (IntKind.i64.wrap (x.2.1 + (2:Int))) (5:Int)))) then (
    if (IntKind.i64.wrap ((IntKind.i64.wrap ((IntKind.i64.wrap (Int.tdiv x.2.1 (5:Int))) * (5:Int))) + (Int.tmod (IntKind.i64.wrap (x.2.1 + (2:Int))) (5:Int)))) < 25 then (
    if ((IntKind.i64.wrap ((IntKind.i64.wrap ((IntKind.i64.wrap (Int.tdiv x.2.1 (5:Int))) * (5:Int))) + (Int.tmod (IntKind.i64.wrap (x.2.1 + (2:Int))) (5:Int)))).toNat) < 25 then (
    if 0 ≤ x.2.1 then (
    if x.2.1 < 25 then (
    if (x.2.1.toNat) < 25 then (
    kn (x.1, (IntKind.i64.wrap (x.2.1 + (1:Int))), (List.set x.2.2.1 (x.2.1.toNat) (ixor IntKind.u64 (List.getD x.2.2.2.2.1 (x.2.1.toNat) 0) (iand IntKind.u64 (ixor IntKind.u64 (if IntKind.u64.signed then -1 else IntKind.u64.max) (List.getD x.2.2.2.2.1 ((IntKind.i64.wrap ((IntKind.i64.wrap ((IntKind.i64.wrap (Int.tdiv x.2.1 (5:Int))) * (5:Int))) + (Int.tmod (IntKind.i64.wrap (x.2.1 + (1:Int))) (5:Int)))).toNat) 0)) (List.getD x.2.2.2.2.1 ((IntKind.i64.wrap ((IntKind.i64.wrap ((IntKind.i64.wrap (Int.tdiv x.2.1 (5:Int))) * (5:Int))) + (Int.tmod (IntKind.i64.wrap (x.2.1 + (2:Int))) (5:Int)))).toNat) 0)))), x.2.2.2.1, x.2.2.2.2.1, ())) else none) else none) else none) else none) else none) else none) else none) else none) else none) else none) else none) else none
  else
    ke (x.1, x.2.2.1, x.2.2.2.1, ())
noncomputable def p_ref03_round_l23_go : Go' ((Int × List Int × List Int × Unit)) := fun y K => K (.exit 6) { tmps := [U, .one (.sc (.int .u64 y.1)), .one (.sc (.ptr 0 0 none)), U, .one (.sc (.ptr 1 0 none)), U, U, U, U, U, U, U, U, U, U, U, U, U, U, U, U, U, U, U, U, U, U, U, U, U, U, U, U, U, U, U, U, U, U, U, U, U, U, U, U, U, U, U, U, U, U, U, U, U, U, U, U, U, U, U, U, U, U, U, U, U, U, U, U, U, U, U, U, U, U, U, U, U, U, U, U, U, U, U, U, U, U, U, U, U, U, U, U, U, U, U, U, U, U, U, U, U, U, U, U, U, U, U, U, U, U, U, U, U, U, U, U, U, U, U], mem := [.live { segs := [.xs (.int .u64) 25 y.2.1], own := .own }, .live { segs := [.xs (.int .u64) 25 y.2.2.1], own := .own }] }
noncomputable def p_ref03_round_l23_L (N : Nat) : LT := upd (p_ref03_round_l16_L N) 23 (loopE p_ref03_round_l23_S N (p_ref03_round_l23_F N) p_ref03_round_l23_go)
theorem p_ref03_round_l23_ok (N : Nat) : OkAll p_ref03_round_E p_ref03_round_H N (p_ref03_round_l23_L N) (subs p_ref03_round_c) :=
  addLoop (c := theLoop 23 p_ref03_round_c) (p_ref03_round_l16_ok N) (by kernel_rfl) (fun x => by kernel_rfl) (fun β x kn ke => by kernel_rfl)
abbrev p_ref03_round_ks : List Kd := [.xs (.int .u64) 25, .int .u64]
abbrev p_ref03_round_rs : List Kd := [.xs (.int .u64) 25]
noncomputable def p_ref03_round (N : Nat) (x : List Int × Int × Unit) : Option (List Int) :=
  iter (p_ref03_round_l3_F N) N (x.2.1, (0:Int), x.1, (List.replicate 25 0), (List.replicate 5 0), ()) fun y1 => (
  iter (p_ref03_round_l8_F N) N (y1.1, (0:Int), y1.2.1, y1.2.2.1, y1.2.2.2.1, ()) fun y3 => (
  iter (p_ref03_round_l16_F N) N (y3.1, (1:Int), (0:Int), (0:Int), y3.2.1, y3.2.2.1, (List.set (List.replicate 25 0) 0 (List.getD y3.2.1 0 0)), ()) fun y5 => (
  iter (p_ref03_round_l23_F N) N (y5.1, (0:Int), y5.2.1, y5.2.2.1, y5.2.2.2.1, ()) fun y6 => (
  some (List.set y6.2.1 0 (ixor IntKind.u64 (List.getD y6.2.1 0 0) y6.1))))))
theorem p_ref03_round_eq (N : Nat) (x : Ds [.xs (.int .u64) 25, .int .u64]) : funL p_ref03_round_E p_ref03_round_H (p_ref03_round_l23_L N) N Try.f71 p_ref03_round_c [.xs (.int .u64) 25, .int .u64] [.xs (.int .u64) 25] x = p_ref03_round N x := by kernel_rfl
theorem p_ref03_round_Eok (e0 : SigOk Try.prog 77 Z_ref03_turn) : p_ref03_round_E.Ok Try.prog := AE.of_ok (all_cons ty71_ok (all_cons ty72_ok (all_cons ty116_ok all_nil))) (all_cons ⟨e0, enters_ref03_turn⟩ all_nil)
theorem p_ref03_round_ok (e0 : SigOk Try.prog 77 Z_ref03_turn) {g : Ds [.xs (.int .u64) 25, .int .u64] → Option (Rs [.xs (.int .u64) 25])} (hg : ∀ x r, g x = some r → ∃ N, p_ref03_round N x = some r) : SigOk Try.prog 71 ⟨[.xs (.int .u64) 25, .int .u64], [.xs (.int .u64) 25], g⟩ :=
  fun_of (E := p_ref03_round_E) (H := p_ref03_round_H) (L := fun N => p_ref03_round_l23_L N) (c := p_ref03_round_c) (ks := p_ref03_round_ks) (rs := p_ref03_round_rs) (F := p_ref03_round) (p_ref03_round_Eok e0) mix Try.func71 (by kernel_rfl) (fun N => p_ref03_round_l23_ok N) p_ref03_round_eq hg
noncomputable abbrev Z_keccak_offsets : Sig := ⟨[], [.xs (.int .i64) 25], g_keccak_offsets⟩
noncomputable abbrev Z_keccak_constants : Sig := ⟨[], [.xs (.int .u64) 24], g_keccak_constants⟩
noncomputable abbrev Z_keccak_mixed : Sig := ⟨[.xs (.int .u64) 25, .rp (.xs (.int .i64) 25)], [.xs (.int .u64) 25], g_keccak_mixed⟩
noncomputable def p_keccak_Permute_E : AE := AE.of [(71, ty71), (72, ty72), (105, ty105), (109, ty109)] [(72, Z_keccak_offsets), (73, Z_keccak_constants), (74, Z_keccak_mixed)]
noncomputable def p_keccak_Permute_H : Hints := [(3, [1, 2, 3, 7, 8]), (2000000, [1, 2]), (2000001, [1, 2, 3, 7, 8]), (3000000, [2])]
noncomputable def p_keccak_Permute_c : Code := (Try.f61).body.getD .skip
noncomputable def p_keccak_Permute_l3_S : Shape where
  h := { tmps := [V, .sc (.ptr 0 0 false), .sc (.ptr 1 0 false), .sc (.ptr 2 0 false), V, V, V, .agg [.xs (.int .u64) (some 24)], .sc (.int .i64), V, V, V, V, V, V, V, V, V, V, V], mem := [.live [.xs (.int .u64) (some 25)] (.own), .live [.xs (.int .u64) (some 25)] (.own), .live [.xs (.int .i64) (some 25)] (.own)] }
  ks := [.xs, .int, .xs, .xs, .xs]
  st := fun x => { tmps := [U, .one (.sc (.ptr 0 0 none)), .one (.sc (.ptr 1 0 none)), .one (.sc (.ptr 2 0 none)), U, U, U, .one (.agg [.xs (.int .u64) 24 x.1]), .one (.sc (.int .i64 x.2.1)), U, U, U, U, U, U, U, U, U, U, U], mem := [.live { segs := [.xs (.int .u64) 25 x.2.2.1], own := .own }, .live { segs := [.xs (.int .u64) 25 x.2.2.2.1], own := .own }, .live { segs := [.xs (.int .i64) 25 x.2.2.2.2.1], own := .own }] }
noncomputable def p_keccak_Permute_l3_F (N : Nat) (β : Type) (x : (List Int × Int × List Int × List Int × List Int × Unit)) (kn : (List Int × Int × List Int × List Int × List Int × Unit) → Option β) (ke : ((List Int × List Int × Unit)) → Option β) : Option β :=
  if (x.2.1 < (24:Int)) then
    if 0 ≤ x.2.1 then (
    if x.2.1 < 24 then (
    if (x.2.1.toNat) < 24 then (
    (g_keccak_mixed (x.2.2.1, x.2.2.2.2.1, ())).bind fun r3 => (
    kn (x.1, (IntKind.i64.wrap (x.2.1 + (1:Int))), (List.set r3 0 (ixor IntKind.u64 (List.getD r3 0 0) (List.getD x.1 (x.2.1.toNat) 0))), x.2.2.2.1, x.2.2.2.2.1, ()))) else none) else none) else none
  else
    ke (x.2.2.1, x.2.2.2.1, ())
noncomputable def p_keccak_Permute_l3_go : Go' ((List Int × List Int × Unit)) := fun y K => K (.exit 0) { tmps := [U, .one (.sc (.ptr 0 0 none)), .one (.sc (.ptr 1 0 none)), U, U, U, U, U, U, U, U, U, U, U, U, U, U, U, U, U], mem := [.live { segs := [.xs (.int .u64) 25 y.1], own := .own }, .live { segs := [.xs (.int .u64) 25 y.2.1], own := .own }] }
noncomputable def p_keccak_Permute_l3_L (N : Nat) : LT := upd (LT.nil) 3 (loopE p_keccak_Permute_l3_S N (p_keccak_Permute_l3_F N) p_keccak_Permute_l3_go)
theorem p_keccak_Permute_l3_ok (N : Nat) : OkAll p_keccak_Permute_E p_keccak_Permute_H N (p_keccak_Permute_l3_L N) (subs p_keccak_Permute_c) :=
  addLoop (c := theLoop 3 p_keccak_Permute_c) (OkAll.nil) (by kernel_rfl) (fun x => by kernel_rfl) (fun β x kn ke => by kernel_rfl)
abbrev p_keccak_Permute_ks : List Kd := [.xs (.int .u64) 25]
abbrev p_keccak_Permute_rs : List Kd := [.xs (.int .u64) 25]
noncomputable def p_keccak_Permute (N : Nat) (x : List Int × Unit) : Option (List Int) :=
  (g_keccak_offsets (())).bind fun r1 => (
  (g_keccak_constants (())).bind fun r2 => (
  iter (p_keccak_Permute_l3_F N) N (r2, (0:Int), x.1, (List.replicate 25 0), r1, ()) fun y4 => (
  some y4.1)))
theorem p_keccak_Permute_eq (N : Nat) (x : Ds [.xs (.int .u64) 25]) : funL p_keccak_Permute_E p_keccak_Permute_H (p_keccak_Permute_l3_L N) N Try.f61 p_keccak_Permute_c [.xs (.int .u64) 25] [.xs (.int .u64) 25] x = p_keccak_Permute N x := by kernel_rfl
theorem p_keccak_Permute_Eok (e0 : SigOk Try.prog 72 Z_keccak_offsets) (e1 : SigOk Try.prog 73 Z_keccak_constants) (e2 : SigOk Try.prog 74 Z_keccak_mixed) : p_keccak_Permute_E.Ok Try.prog := AE.of_ok (all_cons ty71_ok (all_cons ty72_ok (all_cons ty105_ok (all_cons ty109_ok all_nil)))) (all_cons ⟨e0, enters_keccak_offsets⟩ (all_cons ⟨e1, enters_keccak_constants⟩ (all_cons ⟨e2, enters_keccak_mixed⟩ all_nil)))
theorem p_keccak_Permute_ok (e0 : SigOk Try.prog 72 Z_keccak_offsets) (e1 : SigOk Try.prog 73 Z_keccak_constants) (e2 : SigOk Try.prog 74 Z_keccak_mixed) {g : Ds [.xs (.int .u64) 25] → Option (Rs [.xs (.int .u64) 25])} (hg : ∀ x r, g x = some r → ∃ N, p_keccak_Permute N x = some r) : SigOk Try.prog 61 ⟨[.xs (.int .u64) 25], [.xs (.int .u64) 25], g⟩ :=
  fun_of (E := p_keccak_Permute_E) (H := p_keccak_Permute_H) (L := fun N => p_keccak_Permute_l3_L N) (c := p_keccak_Permute_c) (ks := p_keccak_Permute_ks) (rs := p_keccak_Permute_rs) (F := p_keccak_Permute) (p_keccak_Permute_Eok e0 e1 e2) mix Try.func61 (by kernel_rfl) (fun N => p_keccak_Permute_l3_ok N) p_keccak_Permute_eq hg
noncomputable abbrev Z_ref03_constants : Sig := ⟨[], [.xs (.int .u64) 24], g_ref03_constants⟩
noncomputable abbrev Z_ref03_round : Sig := ⟨[.xs (.int .u64) 25, .int .u64], [.xs (.int .u64) 25], g_ref03_round⟩
noncomputable def p_ref03_Permute_E : AE := AE.of [(71, ty71), (72, ty72), (105, ty105)] [(70, Z_ref03_constants), (71, Z_ref03_round)]
noncomputable def p_ref03_Permute_H : Hints := [(3, [1, 2, 3, 6]), (2000000, [1, 2]), (2000001, [1, 2, 3, 6]), (3000000, [2])]
noncomputable def p_ref03_Permute_c : Code := (Try.f53).body.getD .skip
noncomputable def p_ref03_Permute_l3_S : Shape where
  h := { tmps := [V, .sc (.ptr 0 0 false), .sc (.ptr 1 0 false), .sc (.ptr 2 0 false), V, V, .sc (.int .i64), V, V, V, V, V, V, V, V, V], mem := [.live [.xs (.int .u64) (some 25)] (.own), .live [.xs (.int .u64) (some 25)] (.own), .live [.xs (.int .u64) (some 24)] (.own)] }
  ks := [.int, .xs, .xs, .xs]
  st := fun x => { tmps := [U, .one (.sc (.ptr 0 0 none)), .one (.sc (.ptr 1 0 none)), .one (.sc (.ptr 2 0 none)), U, U, .one (.sc (.int .i64 x.1)), U, U, U, U, U, U, U, U, U], mem := [.live { segs := [.xs (.int .u64) 25 x.2.1], own := .own }, .live { segs := [.xs (.int .u64) 25 x.2.2.1], own := .own }, .live { segs := [.xs (.int .u64) 24 x.2.2.2.1], own := .own }] }
noncomputable def p_ref03_Permute_l3_F (N : Nat) (β : Type) (x : (Int × List Int × List Int × List Int × Unit)) (kn : (Int × List Int × List Int × List Int × Unit) → Option β) (ke : ((List Int × List Int × Unit)) → Option β) : Option β :=
  if (x.1 < (24:Int)) then
    if 0 ≤ x.1 then (
    if x.1 < 24 then (
    if (x.1.toNat) < 24 then (
    (g_ref03_round (x.2.1, (List.getD x.2.2.2.1 (x.1.toNat) 0), ())).bind fun r2 => (
    kn ((IntKind.i64.wrap (x.1 + (1:Int))), r2, x.2.2.1, x.2.2.2.1, ()))) else none) else none) else none
  else
    ke (x.2.1, x.2.2.1, ())
noncomputable def p_ref03_Permute_l3_go : Go' ((List Int × List Int × Unit)) := fun y K => K (.exit 0) { tmps := [U, .one (.sc (.ptr 0 0 none)), .one (.sc (.ptr 1 0 none)), U, U, U, U, U, U, U, U, U, U, U, U, U], mem := [.live { segs := [.xs (.int .u64) 25 y.1], own := .own }, .live { segs := [.xs (.int .u64) 25 y.2.1], own := .own }] }
noncomputable def p_ref03_Permute_l3_L (N : Nat) : LT := upd (LT.nil) 3 (loopE p_ref03_Permute_l3_S N (p_ref03_Permute_l3_F N) p_ref03_Permute_l3_go)
theorem p_ref03_Permute_l3_ok (N : Nat) : OkAll p_ref03_Permute_E p_ref03_Permute_H N (p_ref03_Permute_l3_L N) (subs p_ref03_Permute_c) :=
  addLoop (c := theLoop 3 p_ref03_Permute_c) (OkAll.nil) (by kernel_rfl) (fun x => by kernel_rfl) (fun β x kn ke => by kernel_rfl)
abbrev p_ref03_Permute_ks : List Kd := [.xs (.int .u64) 25]
abbrev p_ref03_Permute_rs : List Kd := [.xs (.int .u64) 25]
noncomputable def p_ref03_Permute (N : Nat) (x : List Int × Unit) : Option (List Int) :=
  (g_ref03_constants (())).bind fun r1 => (
  iter (p_ref03_Permute_l3_F N) N ((0:Int), x.1, (List.replicate 25 0), r1, ()) fun y3 => (
  some y3.1))
theorem p_ref03_Permute_eq (N : Nat) (x : Ds [.xs (.int .u64) 25]) : funL p_ref03_Permute_E p_ref03_Permute_H (p_ref03_Permute_l3_L N) N Try.f53 p_ref03_Permute_c [.xs (.int .u64) 25] [.xs (.int .u64) 25] x = p_ref03_Permute N x := by kernel_rfl
theorem p_ref03_Permute_Eok (e0 : SigOk Try.prog 70 Z_ref03_constants) (e1 : SigOk Try.prog 71 Z_ref03_round) : p_ref03_Permute_E.Ok Try.prog := AE.of_ok (all_cons ty71_ok (all_cons ty72_ok (all_cons ty105_ok all_nil))) (all_cons ⟨e0, enters_ref03_constants⟩ (all_cons ⟨e1, enters_ref03_round⟩ all_nil))
theorem p_ref03_Permute_ok (e0 : SigOk Try.prog 70 Z_ref03_constants) (e1 : SigOk Try.prog 71 Z_ref03_round) {g : Ds [.xs (.int .u64) 25] → Option (Rs [.xs (.int .u64) 25])} (hg : ∀ x r, g x = some r → ∃ N, p_ref03_Permute N x = some r) : SigOk Try.prog 53 ⟨[.xs (.int .u64) 25], [.xs (.int .u64) 25], g⟩ :=
  fun_of (E := p_ref03_Permute_E) (H := p_ref03_Permute_H) (L := fun N => p_ref03_Permute_l3_L N) (c := p_ref03_Permute_c) (ks := p_ref03_Permute_ks) (rs := p_ref03_Permute_rs) (F := p_ref03_Permute) (p_ref03_Permute_Eok e0 e1) mix Try.func53 (by kernel_rfl) (fun N => p_ref03_Permute_l3_ok N) p_ref03_Permute_eq hg
end Go.Ax.TryP
set_option linter.unusedVariables false
namespace Go.Ax.TryP
open Go.Proofs
abbrev z25 : List Int := List.replicate 25 0
abbrev z5 : List Int := List.replicate 5 0
theorem u64_b (x : Int) : 0 ≤ IntKind.u64.wrap x ∧ IntKind.u64.wrap x ≤ 18446744073709551615 := by
  simp [IntKind.wrap, IntKind.signed, IntKind.bits]; omega
theorem x64_b (a b : Int) : 0 ≤ x64 a b ∧ x64 a b ≤ 18446744073709551615 := u64_b _
theorem x64_0 {z : Int} (h : 0 ≤ z ∧ z ≤ 18446744073709551615) : x64 0 z = z := by
  obtain ⟨n, rfl⟩ : ∃ n : Nat, z = n := ⟨z.toNat, by omega⟩
  unfold x64
  rw [show (0 : Int) = ((0 : Nat) : Int) from rfl, ixor_nat rfl (by decide) (by simp [IntKind.bits]; omega)]
  simp
theorem cF_b (a : List Int) (x : Nat) : 0 ≤ cF a x ∧ cF a x ≤ 18446744073709551615 := x64_b _ _
theorem wf_ui {a n : Int} : wfAll [.int .u64, .int .i64] (a, n, ()) ↔ (0 ≤ a ∧ a ≤ 18446744073709551615) ∧ (-9223372036854775808 ≤ n ∧ n ≤ 9223372036854775807) := by
  have h1 : Kd.wf (.int .u64) a ↔ _ := okInt_u64
  have h2 : Kd.wf (.int .i64) n ↔ _ := okInt_i64
  simp only [wfAll, and_true, h1, h2]
theorem at_Rot {a n : Int} (h : 0 ≤ a ∧ a ≤ 18446744073709551615) (hn : 0 ≤ n ∧ n < 64) : g_bits_RotateLeft64 (a, n, ()) = some (rot a n) :=
  Spec_at (ks := p_bits_RotateLeft64_ks) (rs := p_bits_RotateLeft64_rs) (x := (a, n, ())) (wf_ui.2 ⟨h, by omega⟩) hn
theorem at_turn {a n : Int} (h : 0 ≤ a ∧ a ≤ 18446744073709551615) (hn : 0 ≤ n ∧ n < 64) : g_ref03_turn (a, n, ()) = some (rot a n) :=
  Spec_at (ks := p_ref03_turn_ks) (rs := p_ref03_turn_rs) (x := (a, n, ())) (wf_ui.2 ⟨h, by omega⟩) hn
theorem m3 (N : Nat) {β : Type} (a tn : List Int) (kn : _ → Option β) (k : _ → Option β) : ∀ i : Nat, i < 5 → p_keccak_mixed_l3_F N β ((i : Int), tn, a, z25, part (cF a) i z5, z5, ()) kn k = kn (((i + 1 : Nat) : Int), tn, a, z25, part (cF a) (i + 1) z5, z5, ())
  | 0, _ => by kernel_rfl
  | 1, _ => by kernel_rfl
  | 2, _ => by kernel_rfl
  | 3, _ => by kernel_rfl
  | 4, _ => by kernel_rfl
  | n + 5, h => absurd h (by omega)
theorem m8 (N : Nat) {β : Type} (a tn : List Int) (kn : _ → Option β) (k : _ → Option β) : ∀ i : Nat, i < 5 → p_keccak_mixed_l8_F N β ((i : Int), tn, a, z25, (List.range 5).map (cF a), part (dF a) i z5, ()) kn k
    = (g_bits_RotateLeft64 (cF a ((i + 1) % 5), 1, ())).bind fun r => kn (((i + 1 : Nat) : Int), tn, a, z25, (List.range 5).map (cF a), (part (dF a) i z5).set i (x64 (cF a ((i + 4) % 5)) r), ())
  | 0, _ => by kernel_rfl
  | 1, _ => by kernel_rfl
  | 2, _ => by kernel_rfl
  | 3, _ => by kernel_rfl
  | 4, _ => by kernel_rfl
  | n + 5, h => absurd h (by omega)
theorem m8s (a : List Int) : ∀ i : Nat, i < 5 → (part (dF a) i z5).set i (x64 (cF a ((i + 4) % 5)) (rot (cF a ((i + 1) % 5)) 1)) = part (dF a) (i + 1) z5
  | 0, _ => by kernel_rfl
  | 1, _ => by kernel_rfl
  | 2, _ => by kernel_rfl
  | 3, _ => by kernel_rfl
  | 4, _ => by kernel_rfl
  | n + 5, h => absurd h (by omega)
def bAt (a : List Int) (i : Nat) : List Int := (List.range 25).map fun j => if inv5 j < i then bF a j else 0
theorem m14 (N : Nat) {β : Type} (a b : List Int) (kn : _ → Option β) (k : _ → Option β) : ∀ i : Nat, i < 25 → p_keccak_mixed_l14_F N β ((i : Int), offs, a, z25, (List.range 5).map (dF a), b, ()) kn k
    = (g_bits_RotateLeft64 (x64 (at0 a i) (dF a (i % 5)), offs.getD i 0, ())).bind fun r => kn (((i + 1 : Nat) : Int), offs, a, z25, (List.range 5).map (dF a), b.set (to5 i) r, ())
  | 0, _ => by kernel_rfl
  | 1, _ => by kernel_rfl
  | 2, _ => by kernel_rfl
  | 3, _ => by kernel_rfl
  | 4, _ => by kernel_rfl
  | 5, _ => by kernel_rfl
  | 6, _ => by kernel_rfl
  | 7, _ => by kernel_rfl
  | 8, _ => by kernel_rfl
  | 9, _ => by kernel_rfl
  | 10, _ => by kernel_rfl
  | 11, _ => by kernel_rfl
  | 12, _ => by kernel_rfl
  | 13, _ => by kernel_rfl
  | 14, _ => by kernel_rfl
  | 15, _ => by kernel_rfl
  | 16, _ => by kernel_rfl
  | 17, _ => by kernel_rfl
  | 18, _ => by kernel_rfl
  | 19, _ => by kernel_rfl
  | 20, _ => by kernel_rfl
  | 21, _ => by kernel_rfl
  | 22, _ => by kernel_rfl
  | 23, _ => by kernel_rfl
  | 24, _ => by kernel_rfl
  | n + 25, h => absurd h (by omega)
theorem set_map {f g : Nat → Int} {n k : Nat} {v : Int} (h : ∀ j, j < n → g j = if j = k then v else f j) : ((List.range n).map f).set k v = (List.range n).map g := by
  refine rows.ext (n := n) (by simp) (by simp) fun j hj => ?_
  rw [map_range_getD hj, h j hj]
  by_cases e : j = k
  · subst e; rw [if_pos rfl, getD_set_eq (by simpa using hj)]
  · rw [if_neg e, getD_set_ne (fun h => e h.symm), map_range_getD hj]
theorem to_inv : ∀ i : Nat, i < 25 → ∀ j : Nat, j < 25 → (j = to5 i ↔ inv5 j = i) := by decide
theorem m14s (a : List Int) (i : Nat) (hi : i < 25) : (bAt a i).set (to5 i) (rot (x64 (at0 a i) (dF a (i % 5))) (offs.getD i 0)) = bAt a (i + 1) := by
  refine set_map fun j hj => ?_
  by_cases e : j = to5 i
  · rw [if_pos e]
    have e2 := (to_inv i hi j hj).1 e
    rw [if_pos (by omega)]
    unfold bF tF
    rw [e2]
  · rw [if_neg e]
    have e2 : inv5 j ≠ i := fun h => e ((to_inv i hi j hj).2 h)
    by_cases h : inv5 j < i
    · rw [if_pos h, if_pos (by omega)]
    · rw [if_neg h, if_neg (by omega)]
theorem offs_b : ∀ i : Nat, i < 25 → 0 ≤ offs.getD i 0 ∧ offs.getD i 0 < 64 := by decide
theorem m20 (N : Nat) {β : Type} (a c : List Int) (kn : _ → Option β) (k : _ → Option β) : ∀ i : Nat, i < 25 → p_keccak_mixed_l20_F N β ((i : Int), c, z25, (List.range 25).map (bF a), ()) kn k
    = kn (((i + 1 : Nat) : Int), c.set i (eF (bF a) i), z25, (List.range 25).map (bF a), ())
  | 0, _ => by kernel_rfl
  | 1, _ => by kernel_rfl
  | 2, _ => by kernel_rfl
  | 3, _ => by kernel_rfl
  | 4, _ => by kernel_rfl
  | 5, _ => by kernel_rfl
  | 6, _ => by kernel_rfl
  | 7, _ => by kernel_rfl
  | 8, _ => by kernel_rfl
  | 9, _ => by kernel_rfl
  | 10, _ => by kernel_rfl
  | 11, _ => by kernel_rfl
  | 12, _ => by kernel_rfl
  | 13, _ => by kernel_rfl
  | 14, _ => by kernel_rfl
  | 15, _ => by kernel_rfl
  | 16, _ => by kernel_rfl
  | 17, _ => by kernel_rfl
  | 18, _ => by kernel_rfl
  | 19, _ => by kernel_rfl
  | 20, _ => by kernel_rfl
  | 21, _ => by kernel_rfl
  | 22, _ => by kernel_rfl
  | 23, _ => by kernel_rfl
  | 24, _ => by kernel_rfl
  | n + 25, h => absurd h (by omega)
def sumAt (a : List Int) : Nat → Nat → Int
  | 0, _ => 0
  | i + 1, x => if i % 5 = x then x64 (sumAt a i x) (at0 a i) else sumAt a i x
theorem r3 (N : Nat) {β : Type} (a : List Int) (c : Int) (kn : _ → Option β) (k : _ → Option β) : ∀ i : Nat, i < 25 → p_ref03_round_l3_F N β (c, (i : Int), a, z25, (List.range 5).map (sumAt a i), ()) kn k = kn (c, ((i + 1 : Nat) : Int), a, z25, (List.range 5).map (sumAt a (i + 1)), ())
  | 0, _ => by kernel_rfl
  | 1, _ => by kernel_rfl
  | 2, _ => by kernel_rfl
  | 3, _ => by kernel_rfl
  | 4, _ => by kernel_rfl
  | 5, _ => by kernel_rfl
  | 6, _ => by kernel_rfl
  | 7, _ => by kernel_rfl
  | 8, _ => by kernel_rfl
  | 9, _ => by kernel_rfl
  | 10, _ => by kernel_rfl
  | 11, _ => by kernel_rfl
  | 12, _ => by kernel_rfl
  | 13, _ => by kernel_rfl
  | 14, _ => by kernel_rfl
  | 15, _ => by kernel_rfl
  | 16, _ => by kernel_rfl
  | 17, _ => by kernel_rfl
  | 18, _ => by kernel_rfl
  | 19, _ => by kernel_rfl
  | 20, _ => by kernel_rfl
  | 21, _ => by kernel_rfl
  | 22, _ => by kernel_rfl
  | 23, _ => by kernel_rfl
  | 24, _ => by kernel_rfl
  | n + 25, h => absurd h (by omega)
def aF (a : List Int) (i : Nat) : Int := x64 (at0 a i) (dF a (i % 5))
theorem r8 (N : Nat) {β : Type} (a b : List Int) (c : Int) (kn : _ → Option β) (k : _ → Option β) : ∀ i : Nat, i < 25 → p_ref03_round_l8_F N β (c, (i : Int), b, z25, (List.range 5).map (cF a), ()) kn k
    = (g_ref03_turn (cF a ((i + 1) % 5), 1, ())).bind fun r => kn (c, ((i + 1 : Nat) : Int), b.set i (x64 (at0 b i) (x64 (cF a ((i + 4) % 5)) r)), z25, (List.range 5).map (cF a), ())
  | 0, _ => by kernel_rfl
  | 1, _ => by kernel_rfl
  | 2, _ => by kernel_rfl
  | 3, _ => by kernel_rfl
  | 4, _ => by kernel_rfl
  | 5, _ => by kernel_rfl
  | 6, _ => by kernel_rfl
  | 7, _ => by kernel_rfl
  | 8, _ => by kernel_rfl
  | 9, _ => by kernel_rfl
  | 10, _ => by kernel_rfl
  | 11, _ => by kernel_rfl
  | 12, _ => by kernel_rfl
  | 13, _ => by kernel_rfl
  | 14, _ => by kernel_rfl
  | 15, _ => by kernel_rfl
  | 16, _ => by kernel_rfl
  | 17, _ => by kernel_rfl
  | 18, _ => by kernel_rfl
  | 19, _ => by kernel_rfl
  | 20, _ => by kernel_rfl
  | 21, _ => by kernel_rfl
  | 22, _ => by kernel_rfl
  | 23, _ => by kernel_rfl
  | 24, _ => by kernel_rfl
  | n + 25, h => absurd h (by omega)
theorem r8s (a : List Int) : ∀ i : Nat, i < 25 → x64 (at0 a i) (x64 (cF a ((i + 4) % 5)) (rot (cF a ((i + 1) % 5)) 1)) = aF a i
  | 0, _ => by kernel_rfl
  | 1, _ => by kernel_rfl
  | 2, _ => by kernel_rfl
  | 3, _ => by kernel_rfl
  | 4, _ => by kernel_rfl
  | 5, _ => by kernel_rfl
  | 6, _ => by kernel_rfl
  | 7, _ => by kernel_rfl
  | 8, _ => by kernel_rfl
  | 9, _ => by kernel_rfl
  | 10, _ => by kernel_rfl
  | 11, _ => by kernel_rfl
  | 12, _ => by kernel_rfl
  | 13, _ => by kernel_rfl
  | 14, _ => by kernel_rfl
  | 15, _ => by kernel_rfl
  | 16, _ => by kernel_rfl
  | 17, _ => by kernel_rfl
  | 18, _ => by kernel_rfl
  | 19, _ => by kernel_rfl
  | 20, _ => by kernel_rfl
  | 21, _ => by kernel_rfl
  | 22, _ => by kernel_rfl
  | 23, _ => by kernel_rfl
  | 24, _ => by kernel_rfl
  | n + 25, h => absurd h (by omega)
def xy : Nat → Nat × Nat
  | 0 => (1, 0)
  | t + 1 => ((xy t).2, (2 * (xy t).1 + 3 * (xy t).2) % 5)
def posL : List Nat := [0, 24, 18, 6, 12, 7, 23, 2, 9, 22, 1, 3, 17, 16, 20, 13, 8, 4, 5, 15, 19, 10, 21, 14, 11]
def bR (a : List Int) (t : Nat) : List Int := (List.range 25).map fun j => if posL.getD j 0 ≤ t then bF a j else 0
theorem r16 (N : Nat) {β : Type} (a b : List Int) (c : Int) (kn : _ → Option β) (k : _ → Option β) : ∀ t : Nat, t < 24 → p_ref03_round_l16_F N β (c, ((xy t).1 : Int), ((xy t).2 : Int), (t : Int), (List.range 25).map (aF a), z25, b, ()) kn k
    = (g_ref03_turn (aF a (5 * (xy t).2 + (xy t).1), ((t + 1) * (t + 2) / 2 % 64 : Nat), ())).bind fun r => kn (c, ((xy (t + 1)).1 : Int), ((xy (t + 1)).2 : Int), ((t + 1 : Nat) : Int), (List.range 25).map (aF a), z25, b.set (5 * (xy (t + 1)).2 + (xy (t + 1)).1) r, ())
  | 0, _ => by kernel_rfl
  | 1, _ => by kernel_rfl
  | 2, _ => by kernel_rfl
  | 3, _ => by kernel_rfl
  | 4, _ => by kernel_rfl
  | 5, _ => by kernel_rfl
  | 6, _ => by kernel_rfl
  | 7, _ => by kernel_rfl
  | 8, _ => by kernel_rfl
  | 9, _ => by kernel_rfl
  | 10, _ => by kernel_rfl
  | 11, _ => by kernel_rfl
  | 12, _ => by kernel_rfl
  | 13, _ => by kernel_rfl
  | 14, _ => by kernel_rfl
  | 15, _ => by kernel_rfl
  | 16, _ => by kernel_rfl
  | 17, _ => by kernel_rfl
  | 18, _ => by kernel_rfl
  | 19, _ => by kernel_rfl
  | 20, _ => by kernel_rfl
  | 21, _ => by kernel_rfl
  | 22, _ => by kernel_rfl
  | 23, _ => by kernel_rfl
  | n + 24, h => absurd h (by omega)
theorem pos_at : ∀ t : Nat, t < 24 → ∀ j : Nat, j < 25 → (j = 5 * (xy (t + 1)).2 + (xy (t + 1)).1 ↔ posL.getD j 0 = t + 1) := by decide
theorem walk_at : ∀ t : Nat, t < 24 → inv5 (5 * (xy (t + 1)).2 + (xy (t + 1)).1) = 5 * (xy t).2 + (xy t).1 ∧ offs.getD (5 * (xy t).2 + (xy t).1) 0 = ((t + 1) * (t + 2) / 2 % 64 : Nat) := by decide
theorem r16s (a : List Int) (t : Nat) (ht : t < 24) : (bR a t).set (5 * (xy (t + 1)).2 + (xy (t + 1)).1) (rot (aF a (5 * (xy t).2 + (xy t).1)) ((t + 1) * (t + 2) / 2 % 64 : Nat)) = bR a (t + 1) := by
  refine set_map fun j hj => ?_
  by_cases e : j = 5 * (xy (t + 1)).2 + (xy (t + 1)).1
  · rw [if_pos e, if_pos (by rw [(pos_at t ht j hj).1 e]; omega)]
    obtain ⟨w1, w2⟩ := walk_at t ht
    unfold bF tF aF
    rw [e, w1, w2]
  · have e2 : posL.getD j 0 ≠ t + 1 := fun h => e ((pos_at t ht j hj).2 h)
    rw [if_neg e]
    by_cases h : posL.getD j 0 ≤ t
    · rw [if_pos h, if_pos (by omega)]
    · rw [if_neg h, if_neg (by omega)]
theorem r23 (N : Nat) {β : Type} (a b : List Int) (c : Int) (kn : _ → Option β) (k : _ → Option β) : ∀ i : Nat, i < 25 → p_ref03_round_l23_F N β (c, (i : Int), b, z25, (List.range 25).map (bF a), ()) kn k
    = kn (c, ((i + 1 : Nat) : Int), b.set i (eF (bF a) i), z25, (List.range 25).map (bF a), ())
  | 0, _ => by kernel_rfl
  | 1, _ => by kernel_rfl
  | 2, _ => by kernel_rfl
  | 3, _ => by kernel_rfl
  | 4, _ => by kernel_rfl
  | 5, _ => by kernel_rfl
  | 6, _ => by kernel_rfl
  | 7, _ => by kernel_rfl
  | 8, _ => by kernel_rfl
  | 9, _ => by kernel_rfl
  | 10, _ => by kernel_rfl
  | 11, _ => by kernel_rfl
  | 12, _ => by kernel_rfl
  | 13, _ => by kernel_rfl
  | 14, _ => by kernel_rfl
  | 15, _ => by kernel_rfl
  | 16, _ => by kernel_rfl
  | 17, _ => by kernel_rfl
  | 18, _ => by kernel_rfl
  | 19, _ => by kernel_rfl
  | 20, _ => by kernel_rfl
  | 21, _ => by kernel_rfl
  | 22, _ => by kernel_rfl
  | 23, _ => by kernel_rfl
  | 24, _ => by kernel_rfl
  | n + 25, h => absurd h (by omega)
def u64s (n : Nat) (a : List Int) : Prop := rows 0 18446744073709551615 n a
theorem wf_u64s {n : Nat} {a : List Int} : Kd.wf (.xs (.int .u64) n) a ↔ u64s n a := by simp [Kd.wf, u64s, rows, okInt_u64]
theorem u64s.at {n : Nat} {a : List Int} (h : u64s n a) (i : Nat) : 0 ≤ at0 a i ∧ at0 a i ≤ 18446744073709551615 := rows.at h (by omega) i
theorem eF_b (b : Nat → Int) (i : Nat) : 0 ≤ eF b i ∧ eF b i ≤ 18446744073709551615 := x64_b _ _
theorem mixS_u (a : List Int) : u64s 25 (mixS a) := rows.range fun i _ => eF_b _ i
theorem roundS_u (a : List Int) (c : Int) : u64s 25 (roundS a c) := rows.set (mixS_u a) (x64_b _ _)
theorem permN_u {a : List Int} (h : u64s 25 a) : ∀ n : Nat, u64s 25 (permN n a)
  | 0 => h
  | n + 1 => roundS_u _ _
theorem permS_u {a : List Int} (h : u64s 25 a) : u64s 25 (permS a) := permN_u h 24
theorem q_keccak_offsets : ∀ x r, g_keccak_offsets x = some r → ∃ N, p_keccak_offsets N x = some r :=
  Spec_of (ks := p_keccak_offsets_ks) (rs := p_keccak_offsets_rs) fun x _ _ => ⟨0, by kernel_rfl⟩
theorem q_keccak_constants : ∀ x r, g_keccak_constants x = some r → ∃ N, p_keccak_constants N x = some r :=
  Spec_of (ks := p_keccak_constants_ks) (rs := p_keccak_constants_rs) fun x _ _ => ⟨0, by kernel_rfl⟩
theorem q_ref03_constants : ∀ x r, g_ref03_constants x = some r → ∃ N, p_ref03_constants N x = some r :=
  Spec_of (ks := p_ref03_constants_ks) (rs := p_ref03_constants_rs) fun x _ _ => ⟨0, by kernel_rfl⟩
theorem at_offsets : g_keccak_offsets () = some offs := Spec_at (ks := p_keccak_offsets_ks) (rs := p_keccak_offsets_rs) (x := ()) trivial trivial
theorem at_constants : g_keccak_constants () = some cons := Spec_at (ks := p_keccak_constants_ks) (rs := p_keccak_constants_rs) (x := ()) trivial trivial
theorem at_constants' : g_ref03_constants () = some cons := Spec_at (ks := p_ref03_constants_ks) (rs := p_ref03_constants_rs) (x := ()) trivial trivial
theorem q_ref03_turn : ∀ x r, g_ref03_turn x = some r → ∃ N, p_ref03_turn N x = some r := by
  refine Spec_of (ks := p_ref03_turn_ks) (rs := p_ref03_turn_rs) fun x hw hq => ⟨0, ?_⟩
  obtain ⟨(a : Int), (n : Int), u⟩ := x
  have hq : 0 ≤ n ∧ n < 64 := hq
  unfold p_ref03_turn rot
  dsimp only
  split
  · rfl
  · rw [wrap_u64 (x := n) (by omega) (by omega), wrap_i64 (by omega) (by omega), wrap_u64 (by omega) (by omega), if_neg (by omega), if_neg (by omega)]
theorem q_bits_RotateLeft64 : ∀ x r, g_bits_RotateLeft64 x = some r → ∃ N, p_bits_RotateLeft64 N x = some r := by
  refine Spec_of (ks := p_bits_RotateLeft64_ks) (rs := p_bits_RotateLeft64_rs) fun x hw hq => ⟨0, ?_⟩
  obtain ⟨(a : Int), (n : Int), u⟩ := x
  have hq : 0 ≤ n ∧ n < 64 := hq
  obtain ⟨ha, _⟩ := wf_ui.1 hw
  obtain ⟨m, rfl⟩ : ∃ m : Nat, n = m := ⟨n.toNat, by omega⟩
  have e : iand IntKind.u64 (m : Int) 63 = m := by
    rw [show (63 : Int) = ((63 : Nat) : Int) from rfl, iand_nat rfl (by simp [IntKind.bits]; omega) (by decide)]
    rw [show (63 : Nat) = 2 ^ 6 - 1 from rfl, Nat.and_two_pow_sub_one_eq_mod, Nat.mod_eq_of_lt (by omega)]
  unfold p_bits_RotateLeft64 rot
  dsimp only
  rw [wrap_u64 (x := (m : Int)) (by omega) (by omega), e, wrap_u64 (x := 64 - (m : Int)) (by omega) (by omega), if_neg (by omega), if_neg (by omega)]
  split
  · rename_i h0
    have h0 : m = 0 := by omega
    subst h0
    obtain ⟨k, rfl⟩ : ∃ k : Nat, a = k := ⟨a.toNat, by omega⟩
    have h1 : ishl IntKind.u64 (k : Int) ((0 : Nat) : Int) = k := by rw [ishl_nat rfl (by decide) (by simp [IntKind.bits]; omega)]; simp
    have h2 : ishr IntKind.u64 (k : Int) (64 - ((0 : Nat) : Int)) = ((0 : Nat) : Int) := by
      rw [show (64 - ((0 : Nat) : Int)) = ((64 : Nat) : Int) from rfl, ishr_nat (by decide)]
      rw [Nat.div_eq_of_lt (by omega)]
    rw [h1, h2, ior_nat rfl (by simp [IntKind.bits]; omega) (by decide)]
    simp
  · rfl
theorem l3_all {a tn : List Int} {β : Type} {k : _ → Option β} : iter (p_keccak_mixed_l3_F 26) 26 ((0 : Int), tn, a, z25, z5, z5, ()) k = k (tn, a, z25, (List.range 5).map (cF a), z5, ()) := by
  refine iter_from (F := p_keccak_mixed_l3_F 26) (s := fun i => ((i : Int), tn, a, z25, part (cF a) i z5, z5, ())) (y := (tn, a, z25, (List.range 5).map (cF a), z5, ())) 5 ?_ ?_ ?_ 26 (by omega)
  · kernel_rfl
  · exact fun i hi kn => m3 26 a tn kn k i hi
  · intro kn; kernel_rfl
theorem l8_all {a tn : List Int} {β : Type} {k : _ → Option β} : iter (p_keccak_mixed_l8_F 26) 26 ((0 : Int), tn, a, z25, (List.range 5).map (cF a), z5, ()) k = k (tn, a, z25, (List.range 5).map (dF a), ()) := by
  refine iter_from (F := p_keccak_mixed_l8_F 26) (s := fun i => ((i : Int), tn, a, z25, (List.range 5).map (cF a), part (dF a) i z5, ())) (y := (tn, a, z25, (List.range 5).map (dF a), ())) 5 ?_ ?_ ?_ 26 (by omega)
  · kernel_rfl
  · intro i hi kn
    refine (m8 26 a tn kn k i hi).trans ?_
    rw [at_Rot (cF_b _ _) (by omega), Option.bind_some, m8s a i hi]
  · intro kn; kernel_rfl
theorem l14_all {a : List Int} {β : Type} {k : _ → Option β} : iter (p_keccak_mixed_l14_F 26) 26 ((0 : Int), offs, a, z25, (List.range 5).map (dF a), z25, ()) k = k (a, z25, (List.range 25).map (bF a), ()) := by
  refine iter_from (F := p_keccak_mixed_l14_F 26) (s := fun i => ((i : Int), offs, a, z25, (List.range 5).map (dF a), bAt a i, ())) (y := (a, z25, (List.range 25).map (bF a), ())) 25 ?_ ?_ ?_ 26 (by omega)
  · kernel_rfl
  · intro i hi kn
    refine (m14 26 a (bAt a i) kn k i hi).trans ?_
    rw [at_Rot (x64_b _ _) (offs_b i hi), Option.bind_some, m14s a i hi]
  · intro kn
    have e : bAt a 25 = (List.range 25).map (bF a) := by
      refine List.map_congr_left fun j hj => ?_
      have hj : j < 25 := List.mem_range.1 hj
      rw [if_pos]
      unfold inv5; omega
    show p_keccak_mixed_l14_F 26 β ((25 : Nat), offs, a, z25, (List.range 5).map (dF a), bAt a 25, ()) kn k = _
    rw [e]
    kernel_rfl
theorem l20_all {a : List Int} (ha : a.length = 25) {β : Type} {k : _ → Option β} : iter (p_keccak_mixed_l20_F 26) 26 ((0 : Int), a, z25, (List.range 25).map (bF a), ()) k = k (mixS a, z25, ()) := by
  refine iter_from (F := p_keccak_mixed_l20_F 26) (s := fun i => ((i : Int), part (eF (bF a)) i a, z25, (List.range 25).map (bF a), ())) (y := (mixS a, z25, ())) 25 ?_ ?_ ?_ 26 (by omega)
  · rw [part_zero]; rfl
  · intro i hi kn
    refine (m20 26 a _ kn k i hi).trans ?_
    rw [part_set (by rw [ha]; exact hi)]
  · intro kn
    show p_keccak_mixed_l20_F 26 β ((25 : Nat), part (eF (bF a)) 25 a, z25, (List.range 25).map (bF a), ()) kn k = _
    rw [part_all ha]
    kernel_rfl
theorem q_keccak_mixed : ∀ x r, g_keccak_mixed x = some r → ∃ N, p_keccak_mixed N x = some r := by
  refine Spec_of (ks := p_keccak_mixed_ks) (rs := p_keccak_mixed_rs) fun x hw hq => ⟨26, ?_⟩
  obtain ⟨(a : List Int), (tn : List Int), u⟩ := x
  have hq : tn = offs := hq
  subst hq
  have ha : u64s 25 a := wf_u64s.1 hw.1
  unfold p_keccak_mixed
  refine l3_all.trans ?_
  refine l8_all.trans ?_
  refine l14_all.trans ?_
  exact l20_all ha.1
theorem offs_wf : Kd.wf (.rp (.xs (.int .i64) 25)) offs := by
  refine ⟨rfl, fun z hz => ?_⟩
  have h : ∀ z ∈ offs, 0 ≤ z ∧ z < 64 := by decide
  have := h z hz
  exact okInt_i64.2 (by omega)
theorem at_mixed {a : List Int} (ha : u64s 25 a) : g_keccak_mixed (a, offs, ()) = some (mixS a) :=
  Spec_at (ks := p_keccak_mixed_ks) (rs := p_keccak_mixed_rs) (x := (a, offs, ())) ⟨wf_u64s.2 ha, offs_wf, trivial⟩ rfl
theorem sum5 {a : List Int} (ha : u64s 25 a) : (List.range 5).map (sumAt a 25) = (List.range 5).map (cF a) := by
  refine List.map_congr_left fun x hx => ?_
  have hx : x < 5 := List.mem_range.1 hx
  have e : ∀ x : Nat, x < 5 → sumAt a 25 x = x64 (x64 (x64 (x64 (x64 0 (at0 a x)) (at0 a (x + 5))) (at0 a (x + 10))) (at0 a (x + 15))) (at0 a (x + 20))
    | 0, _ => by kernel_rfl
    | 1, _ => by kernel_rfl
    | 2, _ => by kernel_rfl
    | 3, _ => by kernel_rfl
    | 4, _ => by kernel_rfl
    | n + 5, h => absurd h (by omega)
  rw [e x hx, x64_0 (ha.at x)]
  rfl
theorem rl3_all {a : List Int} {c : Int} (ha : u64s 25 a) {β : Type} {k : _ → Option β} : iter (p_ref03_round_l3_F 26) 26 (c, (0 : Int), a, z25, z5, ()) k = k (c, a, z25, (List.range 5).map (cF a), ()) := by
  refine iter_from (F := p_ref03_round_l3_F 26) (s := fun i => (c, (i : Int), a, z25, (List.range 5).map (sumAt a i), ())) (y := (c, a, z25, (List.range 5).map (cF a), ())) 25 ?_ ?_ ?_ 26 (by omega)
  · kernel_rfl
  · exact fun i hi kn => r3 26 a c kn k i hi
  · intro kn
    show p_ref03_round_l3_F 26 β (c, (25 : Nat), a, z25, (List.range 5).map (sumAt a 25), ()) kn k = _
    rw [sum5 ha]
    kernel_rfl
theorem rl8_all {a : List Int} {c : Int} (ha : a.length = 25) {β : Type} {k : _ → Option β} : iter (p_ref03_round_l8_F 26) 26 (c, (0 : Int), a, z25, (List.range 5).map (cF a), ()) k = k (c, (List.range 25).map (aF a), z25, ()) := by
  refine iter_from (F := p_ref03_round_l8_F 26) (s := fun i => (c, (i : Int), part (aF a) i a, z25, (List.range 5).map (cF a), ())) (y := (c, (List.range 25).map (aF a), z25, ())) 25 ?_ ?_ ?_ 26 (by omega)
  · rw [part_zero]; rfl
  · intro i hi kn
    refine (r8 26 a (part (aF a) i a) c kn k i hi).trans ?_
    have e : at0 (part (aF a) i a) i = at0 a i := part_getD_self
    rw [at_turn (cF_b _ _) (by omega), Option.bind_some, e, r8s a i hi, part_set (by rw [ha]; exact hi)]
  · intro kn
    show p_ref03_round_l8_F 26 β (c, (25 : Nat), part (aF a) 25 a, z25, (List.range 5).map (cF a), ()) kn k = _
    rw [part_all ha]
    kernel_rfl
theorem bR_24 (a : List Int) : bR a 24 = (List.range 25).map (bF a) := by
  refine List.map_congr_left fun j hj => ?_
  have hj : j < 25 := List.mem_range.1 hj
  have h : ∀ j : Nat, j < 25 → posL.getD j 0 ≤ 24 := by decide
  rw [if_pos (h j hj)]
theorem bR_0 (a : List Int) : bR a 0 = z25.set 0 (aF a 0) := by
  have e : z25 = (List.range 25).map fun _ => (0 : Int) := by decide
  rw [e]
  symm
  refine set_map fun j hj => ?_
  have h : ∀ j : Nat, j < 25 → (j = 0 ↔ posL.getD j 0 ≤ 0) := by decide
  by_cases e0 : j = 0
  · rw [if_pos e0, if_pos ((h j hj).1 e0), e0]
    show tF a (inv5 0) = _
    rfl
  · rw [if_neg e0, if_neg fun q => e0 ((h j hj).2 q)]
theorem aF_b (a : List Int) (i : Nat) : 0 ≤ aF a i ∧ aF a i ≤ 18446744073709551615 := x64_b _ _
theorem rl16_all {a : List Int} {c : Int} {β : Type} {k : _ → Option β} : iter (p_ref03_round_l16_F 26) 26 (c, (1 : Int), (0 : Int), (0 : Int), (List.range 25).map (aF a), z25, bR a 0, ()) k = k (c, (List.range 25).map (aF a), z25, (List.range 25).map (bF a), ()) := by
  refine iter_from (F := p_ref03_round_l16_F 26) (s := fun t => (c, ((xy t).1 : Int), ((xy t).2 : Int), (t : Int), (List.range 25).map (aF a), z25, bR a t, ())) (y := (c, (List.range 25).map (aF a), z25, (List.range 25).map (bF a), ())) 24 ?_ ?_ ?_ 26 (by omega)
  · rfl
  · intro t ht kn
    refine (r16 26 a (bR a t) c kn k t ht).trans ?_
    rw [at_turn (aF_b _ _) (by omega), Option.bind_some, r16s a t ht]
  · intro kn
    show p_ref03_round_l16_F 26 β (c, ((xy 24).1 : Int), ((xy 24).2 : Int), (24 : Nat), (List.range 25).map (aF a), z25, bR a 24, ()) kn k = _
    rw [bR_24]
    kernel_rfl
theorem rl23_all {a b : List Int} {c : Int} (hb : b.length = 25) {β : Type} {k : _ → Option β} : iter (p_ref03_round_l23_F 26) 26 (c, (0 : Int), b, z25, (List.range 25).map (bF a), ()) k = k (c, mixS a, z25, ()) := by
  refine iter_from (F := p_ref03_round_l23_F 26) (s := fun i => (c, (i : Int), part (eF (bF a)) i b, z25, (List.range 25).map (bF a), ())) (y := (c, mixS a, z25, ())) 25 ?_ ?_ ?_ 26 (by omega)
  · rw [part_zero]; rfl
  · intro i hi kn
    refine (r23 26 a _ c kn k i hi).trans ?_
    rw [part_set (by rw [hb]; exact hi)]
  · intro kn
    show p_ref03_round_l23_F 26 β (c, (25 : Nat), part (eF (bF a)) 25 b, z25, (List.range 25).map (bF a), ()) kn k = _
    rw [part_all hb]
    kernel_rfl
theorem q_ref03_round : ∀ x r, g_ref03_round x = some r → ∃ N, p_ref03_round N x = some r := by
  refine Spec_of (ks := p_ref03_round_ks) (rs := p_ref03_round_rs) fun x hw hq => ⟨26, ?_⟩
  obtain ⟨(a : List Int), (c : Int), u⟩ := x
  have ha : u64s 25 a := wf_u64s.1 hw.1
  unfold p_ref03_round
  refine (rl3_all ha).trans ?_
  refine (rl8_all ha.1).trans ?_
  have e : List.set (List.replicate 25 0) 0 (List.getD ((List.range 25).map (aF a)) 0 0) = bR a 0 := by rw [bR_0]; rfl
  dsimp only
  rw [e]
  refine rl16_all.trans ?_
  refine (rl23_all (by simp)).trans ?_
  rfl
theorem at_round {a : List Int} {c : Int} (ha : u64s 25 a) (hc : 0 ≤ c ∧ c ≤ 18446744073709551615) : g_ref03_round (a, c, ()) = some (roundS a c) :=
  Spec_at (ks := p_ref03_round_ks) (rs := p_ref03_round_rs) (x := (a, c, ())) ⟨wf_u64s.2 ha, okInt_u64.2 hc, trivial⟩ trivial
theorem cons_b : ∀ i : Nat, i < 24 → 0 ≤ cons.getD i 0 ∧ cons.getD i 0 ≤ 18446744073709551615 := by decide
theorem kp_all {a : List Int} (ha : u64s 25 a) {β : Type} {k : _ → Option β} : iter (p_keccak_Permute_l3_F 26) 26 (cons, (0 : Int), a, z25, offs, ()) k = k (permS a, z25, ()) := by
  refine iter_from (F := p_keccak_Permute_l3_F 26) (s := fun i => (cons, (i : Int), permN i a, z25, offs, ())) (y := (permS a, z25, ())) 24 rfl ?_ ?_ 26 (by omega)
  · intro i hi kn
    have hp := permN_u ha i
    unfold p_keccak_Permute_l3_F
    dsimp only
    rw [if_pos (by omega), if_pos (by omega), if_pos (by omega), if_pos (by omega), at_mixed hp, Option.bind_some, wrap_i64 (by omega) (by omega), Int.toNat_natCast]
    rfl
  · intro kn
    rfl
theorem q_keccak_Permute : ∀ x r, g_keccak_Permute x = some r → ∃ N, p_keccak_Permute N x = some r := by
  refine Spec_of (ks := p_keccak_Permute_ks) (rs := p_keccak_Permute_rs) fun x hw hq => ⟨26, ?_⟩
  obtain ⟨(a : List Int), u⟩ := x
  have ha : u64s 25 a := wf_u64s.1 hw.1
  unfold p_keccak_Permute
  rw [at_offsets, Option.bind_some, at_constants, Option.bind_some]
  exact (kp_all ha).trans rfl
theorem rp_all {a : List Int} (ha : u64s 25 a) {β : Type} {k : _ → Option β} : iter (p_ref03_Permute_l3_F 26) 26 ((0 : Int), a, z25, cons, ()) k = k (permS a, z25, ()) := by
  refine iter_from (F := p_ref03_Permute_l3_F 26) (s := fun i => ((i : Int), permN i a, z25, cons, ())) (y := (permS a, z25, ())) 24 rfl ?_ ?_ 26 (by omega)
  · intro i hi kn
    have hp := permN_u ha i
    unfold p_ref03_Permute_l3_F
    dsimp only
    rw [if_pos (by omega), if_pos (by omega), if_pos (by omega), if_pos (by omega), Int.toNat_natCast, at_round hp (cons_b i hi), Option.bind_some, wrap_i64 (by omega) (by omega)]
    rfl
  · intro kn
    rfl
theorem q_ref03_Permute : ∀ x r, g_ref03_Permute x = some r → ∃ N, p_ref03_Permute N x = some r := by
  refine Spec_of (ks := p_ref03_Permute_ks) (rs := p_ref03_Permute_rs) fun x hw hq => ⟨26, ?_⟩
  obtain ⟨(a : List Int), u⟩ := x
  have ha : u64s 25 a := wf_u64s.1 hw.1
  unfold p_ref03_Permute
  rw [at_constants', Option.bind_some]
  exact (rp_all ha).trans rfl
theorem at_perm {a : List Int} (ha : u64s 25 a) : g_keccak_Permute (a, ()) = some (permS a) :=
  Spec_at (ks := p_keccak_Permute_ks) (rs := p_keccak_Permute_rs) (x := (a, ())) ⟨wf_u64s.2 ha, trivial⟩ trivial
theorem at_perm' {a : List Int} (ha : u64s 25 a) : g_ref03_Permute (a, ()) = some (permS a) :=
  Spec_at (ks := p_ref03_Permute_ks) (rs := p_ref03_Permute_rs) (x := (a, ())) ⟨wf_u64s.2 ha, trivial⟩ trivial
end Go.Ax.TryP
