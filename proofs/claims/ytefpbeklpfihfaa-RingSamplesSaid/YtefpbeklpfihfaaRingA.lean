/- A part of the proof: RingS, RingP1, RingQ1, RingQ2, RingQ3, RingQ4. -/
import Derived.Test.YtefpbeklpfihfaaRingT
/-! ### What the functions of the ring compute -/
namespace Go.Ax.TryP

def poly (h : Nat → Int) : List Int := (List.range 256).map h
def zeros : List Int := List.replicate 256 0
abbrev KP : Kd := .xs (.int .u16) 256
abbrev KI : Kd := .int .i64
def fRed (a : List Int) : List Int := poly fun i => a.getD i 0 % 3329
noncomputable def g_ring_Reduce : List Int × Unit → Option (List Int) := Spec (ks := [.xs (.int .u16) 256]) (rs := [.xs (.int .u16) 256]) (fun _ => True) fun x => fRed x.1
noncomputable def g_ref13_Reduce : List Int × Unit → Option (List Int) := Spec (ks := [.xs (.int .u16) 256]) (rs := [.xs (.int .u16) 256]) (fun _ => True) fun x => fRed x.1
noncomputable def g_ref13_width : Int × Unit → Option (Int) := Spec (ks := [.int .i64]) (rs := [.int .i64]) (fun x => 0 ≤ x.1 ∧ x.1 ≤ 12) fun x => 2 ^ x.1.toNat
noncomputable def g_ref13_Near : Int × Int × Int × Unit → Option (Int) := Spec (ks := [.int .i64, .int .i64, .int .i64]) (rs := [.int .i64]) (fun x => 0 ≤ x.1 ∧ x.1 ≤ 65535 ∧ 0 < x.2.1 ∧ x.2.1 ≤ 65536 ∧ 0 < x.2.2.1 ∧ x.2.2.1 ≤ 65536) fun x => (2 * x.1 * x.2.1 + x.2.2.1) / (2 * x.2.2.1)
noncomputable def g_ring_times : Int × Int × Unit → Option (Int) := Spec (ks := [.int .u16, .int .u16]) (rs := [.int .u16]) (fun _ => True) fun x => x.1 * x.2.1 % 3329

/-- One number, made shorter. -/
def fComp (d z : Int) : Int := (2 * (z % 3329) * 2 ^ d.toNat + 3329) / (2 * 3329) % 2 ^ d.toNat
def fDecomp (d z : Int) : Int := (2 * (z % 2 ^ d.toNat) * 3329 + 2 ^ d.toNat) / (2 * 2 ^ d.toNat)
def fCompress (d : Int) (a : List Int) : List Int × Int := if d < 1 ∨ 11 < d then (zeros, 1) else (poly fun i => fComp d (a.getD i 0), 0)
def fDecompress (d : Int) (a : List Int) : List Int × Int := if d < 1 ∨ 11 < d then (zeros, 1) else (poly fun i => fDecomp d (a.getD i 0), 0)
noncomputable def g_ring_Compress : Int × List Int × Unit → Option (List Int × Int) := Spec (ks := [.int .i64, .xs (.int .u16) 256]) (rs := [.xs (.int .u16) 256, .int .i64]) (fun _ => True) fun x => fCompress x.1 x.2.1
noncomputable def g_ref13_Compress : Int × List Int × Unit → Option (List Int × Int) := Spec (ks := [.int .i64, .xs (.int .u16) 256]) (rs := [.xs (.int .u16) 256, .int .i64]) (fun _ => True) fun x => fCompress x.1 x.2.1
noncomputable def g_ring_Decompress : Int × List Int × Unit → Option (List Int × Int) := Spec (ks := [.int .i64, .xs (.int .u16) 256]) (rs := [.xs (.int .u16) 256, .int .i64]) (fun _ => True) fun x => fDecompress x.1 x.2.1
noncomputable def g_ref13_Decompress : Int × List Int × Unit → Option (List Int × Int) := Spec (ks := [.int .i64, .xs (.int .u16) 256]) (rs := [.xs (.int .u16) 256, .int .i64]) (fun _ => True) fun x => fDecompress x.1 x.2.1

/-- The bits of a number, the other way round. -/
def rev8 (n : Nat) : Nat := (List.range 8).foldl (fun s i => 2 * s + n / 2 ^ i % 2) 0
def rev7 (n : Nat) : Nat := rev8 n / 2
def zeta (k : Nat) : Int := 17 ^ rev7 k % 3329
noncomputable def g_bits_Reverse8 : Int × Unit → Option (Int) := Spec (ks := [.int .u8]) (rs := [.int .u8]) (fun _ => True) fun x => (rev8 x.1.toNat : Int)
noncomputable def g_ring_powers : Unit → Option (List Int) := Spec (ks := []) (rs := [.xs (.int .u16) 128]) (fun _ => True) fun _ => (List.range 128).map zeta

/-- A layer of the transform: pairs of numbers so far apart. -/
def nLayer (size : Nat) (a : List Int) : List Int := poly fun j =>
  if j % (2 * size) < size then (a.getD j 0 + zeta (128 / size + j / (2 * size)) * a.getD (j + size) 0 % 3329) % 3329
  else (a.getD (j - size) 0 + 3329 - zeta (128 / size + j / (2 * size)) * a.getD j 0 % 3329) % 3329
def fNtt (a : List Int) : List Int := [128, 64, 32, 16, 8, 4, 2].foldl (fun a s => nLayer s a) (fRed a)
noncomputable def g_ring_Ntt : List Int × Unit → Option (List Int) := Spec (ks := [.xs (.int .u16) 256]) (rs := [.xs (.int .u16) 256]) (fun _ => True) fun x => fNtt x.1
noncomputable def g_law13_live : Unit → Option (Bool) := Spec (ks := []) (rs := [.bool]) (fun _ => True) fun _ => true
end Go.Ax.TryP
/-! Printed by program (gen.py). -/
set_option linter.unusedVariables false
namespace Go.Ax.TryP
/-! livery/ring.Reduce -/
noncomputable def p_ring_Reduce_E : AE := AE.of [(22, ty22), (24, ty24)] []
noncomputable def p_ring_Reduce_H : Hints := [(2, [1, 2, 4]), (2000000, [1, 2]), (2000001, [1, 2, 4]), (3000000, [2])]
noncomputable def p_ring_Reduce_c : Code := (Go.Proofs.Try.f37).body.getD .skip
noncomputable def p_ring_Reduce_l2_S : Shape where
  h := { tmps := [.any, .sc (.ptr 0 0 false), .sc (.ptr 1 0 false), .any, .sc (.int .i64), .any, .any, .any, .any, .any, .any, .any, .any, .any], mem := [.live [.xs (.int .u16) (some 256)] (.own), .live [.xs (.int .u16) (some 256)] (.own)] }
  ks := [.int, .xs, .xs]
  st := fun x => { tmps := [.one .any, .one (.sc (.ptr 0 0 none)), .one (.sc (.ptr 1 0 none)), .one .any, .one (.sc (.int .i64 x.1)), .one .any, .one .any, .one .any, .one .any, .one .any, .one .any, .one .any, .one .any, .one .any], mem := [.live { segs := [.xs (.int .u16) 256 x.2.1], own := .own }, .live { segs := [.xs (.int .u16) 256 x.2.2.1], own := .own }] }
noncomputable def p_ring_Reduce_l2_F (N : Nat) (β : Type) (x : (Int × List Int × List Int × Unit)) (kn : (Int × List Int × List Int × Unit) → Option β) (ke : ((List Int × List Int × Unit)) → Option β) : Option β :=
  if (x.1 < (256:Int)) then
    if 0 ≤ x.1 then (
    if x.1 < 256 then (
    if (x.1.toNat) < 256 then (
    if 0 ≤ x.1 then (
    if x.1 < 256 then (
    if (x.1.toNat) < 256 then (
    kn ((IntKind.i64.wrap (x.1 + (1:Int))), (List.set x.2.1 (x.1.toNat) (Int.tmod (List.getD x.2.1 (x.1.toNat) 0) (3329:Int))), x.2.2.1, ())) else none) else none) else none) else none) else none) else none
  else
    ke (x.2.1, x.2.2.1, ())
noncomputable def p_ring_Reduce_l2_go : Go' ((List Int × List Int × Unit)) := fun y K => K (.exit 0) { tmps := [.one .any, .one (.sc (.ptr 0 0 none)), .one (.sc (.ptr 1 0 none)), .one .any, .one .any, .one .any, .one .any, .one .any, .one .any, .one .any, .one .any, .one .any, .one .any, .one .any], mem := [.live { segs := [.xs (.int .u16) 256 y.1], own := .own }, .live { segs := [.xs (.int .u16) 256 y.2.1], own := .own }] }
noncomputable def p_ring_Reduce_l2_L (N : Nat) : LT := upd (LT.nil) 2 (loopE p_ring_Reduce_l2_S N (p_ring_Reduce_l2_F N) p_ring_Reduce_l2_go)
theorem p_ring_Reduce_l2_ok (N : Nat) : OkAll p_ring_Reduce_E p_ring_Reduce_H N (p_ring_Reduce_l2_L N) (subs p_ring_Reduce_c) :=
  addLoop (c := theLoop 2 p_ring_Reduce_c) (OkAll.nil) (by kernel_rfl) (fun x => by kernel_rfl) (fun β x kn ke => by kernel_rfl)
abbrev p_ring_Reduce_ks : List Kd := [.xs (.int .u16) 256]
abbrev p_ring_Reduce_rs : List Kd := [.xs (.int .u16) 256]
noncomputable def p_ring_Reduce (N : Nat) (x : List Int × Unit) : Option (List Int) :=
  iter (p_ring_Reduce_l2_F N) N ((0:Int), x.1, (List.replicate 256 0), ()) fun y1 => (
  some y1.1)
theorem p_ring_Reduce_eq (N : Nat) (x : Ds [.xs (.int .u16) 256]) : funL p_ring_Reduce_E p_ring_Reduce_H (p_ring_Reduce_l2_L N) N Go.Proofs.Try.f37 p_ring_Reduce_c [.xs (.int .u16) 256] [.xs (.int .u16) 256] x = p_ring_Reduce N x := by kernel_rfl
theorem p_ring_Reduce_Eok : p_ring_Reduce_E.Ok Go.Proofs.Try.prog := AE.of_ok (all_cons ty22_ok (all_cons ty24_ok all_nil)) all_nil
theorem p_ring_Reduce_ok {g : Ds [.xs (.int .u16) 256] → Option (Rs [.xs (.int .u16) 256])} (hg : ∀ x r, g x = some r → ∃ N, p_ring_Reduce N x = some r) : SigOk Go.Proofs.Try.prog 37 ⟨[.xs (.int .u16) 256], [.xs (.int .u16) 256], g⟩ :=
  fun_of (E := p_ring_Reduce_E) (H := p_ring_Reduce_H) (L := fun N => p_ring_Reduce_l2_L N) (c := p_ring_Reduce_c) (ks := p_ring_Reduce_ks) (rs := p_ring_Reduce_rs) (F := p_ring_Reduce) (p_ring_Reduce_Eok) mix Go.Proofs.Try.func37 (by kernel_rfl) (fun N => p_ring_Reduce_l2_ok N) p_ring_Reduce_eq hg

/-! livery/liveryref13.Reduce -/
noncomputable def p_ref13_Reduce_E : AE := AE.of [(22, ty22), (24, ty24)] []
noncomputable def p_ref13_Reduce_H : Hints := [(2, [1, 2, 4]), (2000000, [1, 2]), (2000001, [1, 2, 4]), (3000000, [2])]
noncomputable def p_ref13_Reduce_c : Code := (Go.Proofs.Try.f38).body.getD .skip
noncomputable def p_ref13_Reduce_l2_S : Shape where
  h := { tmps := [.any, .sc (.ptr 0 0 false), .sc (.ptr 1 0 false), .any, .sc (.int .i64), .any, .any, .any, .any, .any, .any, .any, .any, .any], mem := [.live [.xs (.int .u16) (some 256)] (.own), .live [.xs (.int .u16) (some 256)] (.own)] }
  ks := [.int, .xs, .xs]
  st := fun x => { tmps := [.one .any, .one (.sc (.ptr 0 0 none)), .one (.sc (.ptr 1 0 none)), .one .any, .one (.sc (.int .i64 x.1)), .one .any, .one .any, .one .any, .one .any, .one .any, .one .any, .one .any, .one .any, .one .any], mem := [.live { segs := [.xs (.int .u16) 256 x.2.1], own := .own }, .live { segs := [.xs (.int .u16) 256 x.2.2.1], own := .own }] }
noncomputable def p_ref13_Reduce_l2_F (N : Nat) (β : Type) (x : (Int × List Int × List Int × Unit)) (kn : (Int × List Int × List Int × Unit) → Option β) (ke : ((List Int × List Int × Unit)) → Option β) : Option β :=
  if (x.1 < (256:Int)) then
    if 0 ≤ x.1 then (
    if x.1 < 256 then (
    if (x.1.toNat) < 256 then (
    if 0 ≤ x.1 then (
    if x.1 < 256 then (
    if (x.1.toNat) < 256 then (
    kn ((IntKind.i64.wrap (x.1 + (1:Int))), (List.set x.2.1 (x.1.toNat) (Int.tmod (List.getD x.2.1 (x.1.toNat) 0) (3329:Int))), x.2.2.1, ())) else none) else none) else none) else none) else none) else none
  else
    ke (x.2.1, x.2.2.1, ())
noncomputable def p_ref13_Reduce_l2_go : Go' ((List Int × List Int × Unit)) := fun y K => K (.exit 0) { tmps := [.one .any, .one (.sc (.ptr 0 0 none)), .one (.sc (.ptr 1 0 none)), .one .any, .one .any, .one .any, .one .any, .one .any, .one .any, .one .any, .one .any, .one .any, .one .any, .one .any], mem := [.live { segs := [.xs (.int .u16) 256 y.1], own := .own }, .live { segs := [.xs (.int .u16) 256 y.2.1], own := .own }] }
noncomputable def p_ref13_Reduce_l2_L (N : Nat) : LT := upd (LT.nil) 2 (loopE p_ref13_Reduce_l2_S N (p_ref13_Reduce_l2_F N) p_ref13_Reduce_l2_go)
theorem p_ref13_Reduce_l2_ok (N : Nat) : OkAll p_ref13_Reduce_E p_ref13_Reduce_H N (p_ref13_Reduce_l2_L N) (subs p_ref13_Reduce_c) :=
  addLoop (c := theLoop 2 p_ref13_Reduce_c) (OkAll.nil) (by kernel_rfl) (fun x => by kernel_rfl) (fun β x kn ke => by kernel_rfl)
abbrev p_ref13_Reduce_ks : List Kd := [.xs (.int .u16) 256]
abbrev p_ref13_Reduce_rs : List Kd := [.xs (.int .u16) 256]
noncomputable def p_ref13_Reduce (N : Nat) (x : List Int × Unit) : Option (List Int) :=
  iter (p_ref13_Reduce_l2_F N) N ((0:Int), x.1, (List.replicate 256 0), ()) fun y1 => (
  some y1.1)
theorem p_ref13_Reduce_eq (N : Nat) (x : Ds [.xs (.int .u16) 256]) : funL p_ref13_Reduce_E p_ref13_Reduce_H (p_ref13_Reduce_l2_L N) N Go.Proofs.Try.f38 p_ref13_Reduce_c [.xs (.int .u16) 256] [.xs (.int .u16) 256] x = p_ref13_Reduce N x := by kernel_rfl
theorem p_ref13_Reduce_Eok : p_ref13_Reduce_E.Ok Go.Proofs.Try.prog := AE.of_ok (all_cons ty22_ok (all_cons ty24_ok all_nil)) all_nil
theorem p_ref13_Reduce_ok {g : Ds [.xs (.int .u16) 256] → Option (Rs [.xs (.int .u16) 256])} (hg : ∀ x r, g x = some r → ∃ N, p_ref13_Reduce N x = some r) : SigOk Go.Proofs.Try.prog 38 ⟨[.xs (.int .u16) 256], [.xs (.int .u16) 256], g⟩ :=
  fun_of (E := p_ref13_Reduce_E) (H := p_ref13_Reduce_H) (L := fun N => p_ref13_Reduce_l2_L N) (c := p_ref13_Reduce_c) (ks := p_ref13_Reduce_ks) (rs := p_ref13_Reduce_rs) (F := p_ref13_Reduce) (p_ref13_Reduce_Eok) mix Go.Proofs.Try.func38 (by kernel_rfl) (fun N => p_ref13_Reduce_l2_ok N) p_ref13_Reduce_eq hg

/-! livery/liveryref13.width -/
noncomputable def p_ref13_width_E : AE := AE.of [] []
noncomputable def p_ref13_width_H : Hints := [(3, [3, 4, 5]), (2000000, [3]), (2000001, [3, 4, 5]), (3000000, [2])]
noncomputable def p_ref13_width_c : Code := (Go.Proofs.Try.f45).body.getD .skip
noncomputable def p_ref13_width_l3_S : Shape where
  h := { tmps := [.any, .any, .any, .sc (.int .i64), .sc (.int .i64), .sc (.int .i64), .any, .any, .any, .any, .any], mem := [] }
  ks := [.int, .int, .int]
  st := fun x => { tmps := [.one .any, .one .any, .one .any, .one (.sc (.int .i64 x.1)), .one (.sc (.int .i64 x.2.1)), .one (.sc (.int .i64 x.2.2.1)), .one .any, .one .any, .one .any, .one .any, .one .any], mem := [] }
noncomputable def p_ref13_width_l3_F (N : Nat) (β : Type) (x : (Int × Int × Int × Unit)) (kn : (Int × Int × Int × Unit) → Option β) (ke : ((Int × Unit)) → Option β) : Option β :=
  if (x.2.2.1 < x.2.1) then
    kn ((IntKind.i64.wrap (x.1 * (2:Int))), x.2.1, (IntKind.i64.wrap (x.2.2.1 + (1:Int))), ())
  else
    ke (x.1, ())
noncomputable def p_ref13_width_l3_go : Go' ((Int × Unit)) := fun y K => K (.exit 0) { tmps := [.one .any, .one .any, .one .any, .one (.sc (.int .i64 y.1)), .one .any, .one .any, .one .any, .one .any, .one .any, .one .any, .one .any], mem := [] }
noncomputable def p_ref13_width_l3_L (N : Nat) : LT := upd (LT.nil) 3 (loopE p_ref13_width_l3_S N (p_ref13_width_l3_F N) p_ref13_width_l3_go)
theorem p_ref13_width_l3_ok (N : Nat) : OkAll p_ref13_width_E p_ref13_width_H N (p_ref13_width_l3_L N) (subs p_ref13_width_c) :=
  addLoop (c := theLoop 3 p_ref13_width_c) (OkAll.nil) (by kernel_rfl) (fun x => by kernel_rfl) (fun β x kn ke => by kernel_rfl)
abbrev p_ref13_width_ks : List Kd := [.int .i64]
abbrev p_ref13_width_rs : List Kd := [.int .i64]
noncomputable def p_ref13_width (N : Nat) (x : Int × Unit) : Option (Int) :=
  iter (p_ref13_width_l3_F N) N ((1:Int), x.1, (0:Int), ()) fun y1 => (
  some y1.1)
theorem p_ref13_width_eq (N : Nat) (x : Ds [.int .i64]) : funL p_ref13_width_E p_ref13_width_H (p_ref13_width_l3_L N) N Go.Proofs.Try.f45 p_ref13_width_c [.int .i64] [.int .i64] x = p_ref13_width N x := by kernel_rfl
theorem p_ref13_width_Eok : p_ref13_width_E.Ok Go.Proofs.Try.prog := AE.of_ok all_nil all_nil
theorem p_ref13_width_ok {g : Ds [.int .i64] → Option (Rs [.int .i64])} (hg : ∀ x r, g x = some r → ∃ N, p_ref13_width N x = some r) : SigOk Go.Proofs.Try.prog 45 ⟨[.int .i64], [.int .i64], g⟩ :=
  fun_of (E := p_ref13_width_E) (H := p_ref13_width_H) (L := fun N => p_ref13_width_l3_L N) (c := p_ref13_width_c) (ks := p_ref13_width_ks) (rs := p_ref13_width_rs) (F := p_ref13_width) (p_ref13_width_Eok) mix Go.Proofs.Try.func45 (by kernel_rfl) (fun N => p_ref13_width_l3_ok N) p_ref13_width_eq hg

/-! livery/liveryref13.Near -/
noncomputable def p_ref13_Near_E : AE := AE.of [] []
noncomputable def p_ref13_Near_H : Hints := [(3000000, [6])]
noncomputable def p_ref13_Near_c : Code := (Go.Proofs.Try.f19).body.getD .skip
abbrev p_ref13_Near_ks : List Kd := [.int .i64, .int .i64, .int .i64]
abbrev p_ref13_Near_rs : List Kd := [.int .i64]
noncomputable def p_ref13_Near (N : Nat) (x : Int × Int × Int × Unit) : Option (Int) :=
  if (IntKind.i64.wrap ((2:Int) * x.2.2.1)) = 0 then none else (
  some (IntKind.i64.wrap (Int.tdiv (IntKind.i64.wrap ((IntKind.i64.wrap ((IntKind.i64.wrap ((2:Int) * x.1)) * x.2.1)) + x.2.2.1)) (IntKind.i64.wrap ((2:Int) * x.2.2.1)))))
theorem p_ref13_Near_eq (N : Nat) (x : Ds [.int .i64, .int .i64, .int .i64]) : funL p_ref13_Near_E p_ref13_Near_H (LT.nil) N Go.Proofs.Try.f19 p_ref13_Near_c [.int .i64, .int .i64, .int .i64] [.int .i64] x = p_ref13_Near N x := by kernel_rfl
theorem p_ref13_Near_Eok : p_ref13_Near_E.Ok Go.Proofs.Try.prog := AE.of_ok all_nil all_nil
theorem p_ref13_Near_ok {g : Ds [.int .i64, .int .i64, .int .i64] → Option (Rs [.int .i64])} (hg : ∀ x r, g x = some r → ∃ N, p_ref13_Near N x = some r) : SigOk Go.Proofs.Try.prog 19 ⟨[.int .i64, .int .i64, .int .i64], [.int .i64], g⟩ :=
  fun_of (E := p_ref13_Near_E) (H := p_ref13_Near_H) (L := fun N => LT.nil) (c := p_ref13_Near_c) (ks := p_ref13_Near_ks) (rs := p_ref13_Near_rs) (F := p_ref13_Near) (p_ref13_Near_Eok) mix Go.Proofs.Try.func19 (by kernel_rfl) (fun N => OkAll.nil) p_ref13_Near_eq hg

/-! livery/ring.times -/
noncomputable def p_ring_times_E : AE := AE.of [(22, ty22), (46, ty46)] []
noncomputable def p_ring_times_H : Hints := [(3000000, [4])]
noncomputable def p_ring_times_c : Code := (Go.Proofs.Try.f47).body.getD .skip
abbrev p_ring_times_ks : List Kd := [.int .u16, .int .u16]
abbrev p_ring_times_rs : List Kd := [.int .u16]
noncomputable def p_ring_times (N : Nat) (x : Int × Int × Unit) : Option (Int) :=
  some (IntKind.u16.wrap (Int.tmod (IntKind.u32.wrap ((IntKind.u32.wrap x.1) * (IntKind.u32.wrap x.2.1))) (3329:Int)))
theorem p_ring_times_eq (N : Nat) (x : Ds [.int .u16, .int .u16]) : funL p_ring_times_E p_ring_times_H (LT.nil) N Go.Proofs.Try.f47 p_ring_times_c [.int .u16, .int .u16] [.int .u16] x = p_ring_times N x := by kernel_rfl
theorem p_ring_times_Eok : p_ring_times_E.Ok Go.Proofs.Try.prog := AE.of_ok (all_cons ty22_ok (all_cons ty46_ok all_nil)) all_nil
theorem p_ring_times_ok {g : Ds [.int .u16, .int .u16] → Option (Rs [.int .u16])} (hg : ∀ x r, g x = some r → ∃ N, p_ring_times N x = some r) : SigOk Go.Proofs.Try.prog 47 ⟨[.int .u16, .int .u16], [.int .u16], g⟩ :=
  fun_of (E := p_ring_times_E) (H := p_ring_times_H) (L := fun N => LT.nil) (c := p_ring_times_c) (ks := p_ring_times_ks) (rs := p_ring_times_rs) (F := p_ring_times) (p_ring_times_Eok) mix Go.Proofs.Try.func47 (by kernel_rfl) (fun N => OkAll.nil) p_ring_times_eq hg

/-! livery/ring.Compress -/
noncomputable def p_ring_Compress_E : AE := AE.of [(22, ty22), (24, ty24), (46, ty46)] [(37, ⟨[.xs (.int .u16) 256], [.xs (.int .u16) 256], g_ring_Reduce⟩)]
noncomputable def p_ring_Compress_H : Hints := [(5, [0, 3, 4, 17, 18]), (2000000, [3, 4]), (2000001, [0, 3, 4, 17, 18]), (3000000, [4, 5])]
noncomputable def p_ring_Compress_c : Code := (Go.Proofs.Try.f14).body.getD .skip
noncomputable def p_ring_Compress_l5_S : Shape where
  h := { tmps := [.sc (.int .i64), .any, .any, .sc (.ptr 0 0 false), .sc (.ptr 1 0 false), .any, .any, .any, .any, .any, .any, .any, .any, .any, .any, .any, .any, .agg [.xs (.int .u16) (some 256)], .sc (.int .i64), .any, .any, .any, .any, .any, .any, .any, .any, .any, .any, .any, .any, .any, .any, .any, .any, .any, .any], mem := [.live [.xs (.int .u16) (some 256)] (.own), .live [.xs (.int .u16) (some 256)] (.own)] }
  ks := [.int, .xs, .int, .xs, .xs]
  st := fun x => { tmps := [.one (.sc (.int .i64 x.1)), .one .any, .one .any, .one (.sc (.ptr 0 0 none)), .one (.sc (.ptr 1 0 none)), .one .any, .one .any, .one .any, .one .any, .one .any, .one .any, .one .any, .one .any, .one .any, .one .any, .one .any, .one .any, .one (.agg [.xs (.int .u16) 256 x.2.1]), .one (.sc (.int .i64 x.2.2.1)), .one .any, .one .any, .one .any, .one .any, .one .any, .one .any, .one .any, .one .any, .one .any, .one .any, .one .any, .one .any, .one .any, .one .any, .one .any, .one .any, .one .any, .one .any], mem := [.live { segs := [.xs (.int .u16) 256 x.2.2.2.1], own := .own }, .live { segs := [.xs (.int .u16) 256 x.2.2.2.2.1], own := .own }] }
noncomputable def p_ring_Compress_l5_F (N : Nat) (β : Type) (x : (Int × List Int × Int × List Int × List Int × Unit)) (kn : (Int × List Int × Int × List Int × List Int × Unit) → Option β) (ke : ((List Int × List Int × Unit)) → Option β) : Option β :=
  if (x.2.2.1 < (256:Int)) then
    if 0 ≤ x.2.2.1 then (
    if x.2.2.1 < 256 then (
    if (x.2.2.1.toNat) < 256 then (
    if (IntKind.i64.wrap (x.1 + (1:Int))) < 0 then none else (
    if x.1 < 0 then none else (
    if (ishl IntKind.u32 (1:Int) x.1) = 0 then none else (
    if 0 ≤ x.2.2.1 then (
    if x.2.2.1 < 256 then (
    if (x.2.2.1.toNat) < 256 then (
    kn (x.1, x.2.1, (IntKind.i64.wrap (x.2.2.1 + (1:Int))), (List.set x.2.2.2.1 (x.2.2.1.toNat) (IntKind.u16.wrap (Int.tmod (IntKind.u32.wrap (Int.tdiv (IntKind.u32.wrap ((ishl IntKind.u32 (IntKind.u32.wrap (List.getD x.2.1 (x.2.2.1.toNat) 0)) (IntKind.i64.wrap (x.1 + (1:Int)))) + (3329:Int))) (6658:Int))) (ishl IntKind.u32 (1:Int) x.1)))), x.2.2.2.2.1, ())) else none) else none) else none)))) else none) else none) else none
  else
    ke (x.2.2.2.1, x.2.2.2.2.1, ())
noncomputable def p_ring_Compress_l5_go : Go' ((List Int × List Int × Unit)) := fun y K => K (.exit 0) { tmps := [.one .any, .one .any, .one .any, .one (.sc (.ptr 0 0 none)), .one (.sc (.ptr 1 0 none)), .one .any, .one .any, .one .any, .one .any, .one .any, .one .any, .one .any, .one .any, .one .any, .one .any, .one .any, .one .any, .one .any, .one .any, .one .any, .one .any, .one .any, .one .any, .one .any, .one .any, .one .any, .one .any, .one .any, .one .any, .one .any, .one .any, .one .any, .one .any, .one .any, .one .any, .one .any, .one .any], mem := [.live { segs := [.xs (.int .u16) 256 y.1], own := .own }, .live { segs := [.xs (.int .u16) 256 y.2.1], own := .own }] }
noncomputable def p_ring_Compress_l5_L (N : Nat) : LT := upd (LT.nil) 5 (loopE p_ring_Compress_l5_S N (p_ring_Compress_l5_F N) p_ring_Compress_l5_go)
theorem p_ring_Compress_l5_ok (N : Nat) : OkAll p_ring_Compress_E p_ring_Compress_H N (p_ring_Compress_l5_L N) (subs p_ring_Compress_c) :=
  addLoop (c := theLoop 5 p_ring_Compress_c) (OkAll.nil) (by kernel_rfl) (fun x => by kernel_rfl) (fun β x kn ke => by kernel_rfl)
abbrev p_ring_Compress_ks : List Kd := [.int .i64, .xs (.int .u16) 256]
abbrev p_ring_Compress_rs : List Kd := [.xs (.int .u16) 256, .int .i64]
noncomputable def p_ring_Compress (N : Nat) (x : Int × List Int × Unit) : Option (List Int × Int) :=
  if (x.1 < (1:Int)) then
    some ((List.replicate 256 0), (1:Int))
  else
    if (x.1 > (11:Int)) then
      some ((List.replicate 256 0), (1:Int))
    else
      (g_ring_Reduce (x.2.1, ())).bind fun r1 => (
      iter (p_ring_Compress_l5_F N) N (x.1, r1, (0:Int), r1, (List.replicate 256 0), ()) fun y2 => (
      some (y2.1, (0:Int))))
theorem p_ring_Compress_eq (N : Nat) (x : Ds [.int .i64, .xs (.int .u16) 256]) : funL p_ring_Compress_E p_ring_Compress_H (p_ring_Compress_l5_L N) N Go.Proofs.Try.f14 p_ring_Compress_c [.int .i64, .xs (.int .u16) 256] [.xs (.int .u16) 256, .int .i64] x = p_ring_Compress N x := by kernel_rfl
theorem p_ring_Compress_Eok (he_ring_Reduce : SigOk Go.Proofs.Try.prog 37 ⟨[.xs (.int .u16) 256], [.xs (.int .u16) 256], g_ring_Reduce⟩) : p_ring_Compress_E.Ok Go.Proofs.Try.prog := AE.of_ok (all_cons ty22_ok (all_cons ty24_ok (all_cons ty46_ok all_nil))) (all_cons ⟨he_ring_Reduce, enters_ring_Reduce⟩ all_nil)
theorem p_ring_Compress_ok (he_ring_Reduce : SigOk Go.Proofs.Try.prog 37 ⟨[.xs (.int .u16) 256], [.xs (.int .u16) 256], g_ring_Reduce⟩) {g : Ds [.int .i64, .xs (.int .u16) 256] → Option (Rs [.xs (.int .u16) 256, .int .i64])} (hg : ∀ x r, g x = some r → ∃ N, p_ring_Compress N x = some r) : SigOk Go.Proofs.Try.prog 14 ⟨[.int .i64, .xs (.int .u16) 256], [.xs (.int .u16) 256, .int .i64], g⟩ :=
  fun_of (E := p_ring_Compress_E) (H := p_ring_Compress_H) (L := fun N => p_ring_Compress_l5_L N) (c := p_ring_Compress_c) (ks := p_ring_Compress_ks) (rs := p_ring_Compress_rs) (F := p_ring_Compress) (p_ring_Compress_Eok he_ring_Reduce) mix Go.Proofs.Try.func14 (by kernel_rfl) (fun N => p_ring_Compress_l5_ok N) p_ring_Compress_eq hg

/-! livery/liveryref13.Compress -/
noncomputable def p_ref13_Compress_E : AE := AE.of [(3, ty3), (22, ty22), (24, ty24)] [(45, ⟨[.int .i64], [.int .i64], g_ref13_width⟩), (19, ⟨[.int .i64, .int .i64, .int .i64], [.int .i64], g_ref13_Near⟩)]
noncomputable def p_ref13_Compress_H : Hints := [(4, [0, 3, 4, 14]), (2000000, [3, 4]), (2000001, [0, 3, 4, 14]), (3000000, [4, 5])]
noncomputable def p_ref13_Compress_c : Code := (Go.Proofs.Try.f15).body.getD .skip
noncomputable def p_ref13_Compress_l4_S : Shape where
  h := { tmps := [.sc (.int .i64), .any, .any, .sc (.ptr 0 0 false), .sc (.ptr 1 0 false), .any, .any, .any, .any, .any, .any, .any, .any, .any, .sc (.int .i64), .any, .any, .any, .any, .any, .any, .any, .any, .any, .any, .any, .any, .any, .any, .any, .any, .any, .any], mem := [.live [.xs (.int .u16) (some 256)] (.own), .live [.xs (.int .u16) (some 256)] (.own)] }
  ks := [.int, .int, .xs, .xs]
  st := fun x => { tmps := [.one (.sc (.int .i64 x.1)), .one .any, .one .any, .one (.sc (.ptr 0 0 none)), .one (.sc (.ptr 1 0 none)), .one .any, .one .any, .one .any, .one .any, .one .any, .one .any, .one .any, .one .any, .one .any, .one (.sc (.int .i64 x.2.1)), .one .any, .one .any, .one .any, .one .any, .one .any, .one .any, .one .any, .one .any, .one .any, .one .any, .one .any, .one .any, .one .any, .one .any, .one .any, .one .any, .one .any, .one .any], mem := [.live { segs := [.xs (.int .u16) 256 x.2.2.1], own := .own }, .live { segs := [.xs (.int .u16) 256 x.2.2.2.1], own := .own }] }
noncomputable def p_ref13_Compress_l4_F (N : Nat) (β : Type) (x : (Int × Int × List Int × List Int × Unit)) (kn : (Int × Int × List Int × List Int × Unit) → Option β) (ke : ((List Int × List Int × Unit)) → Option β) : Option β :=
  if (x.2.1 < (256:Int)) then
    if 0 ≤ x.2.1 then (
    if x.2.1 < 256 then (
    if (x.2.1.toNat) < 256 then (
    (g_ref13_width (x.1, ())).bind fun r1 => (
    (g_ref13_Near ((IntKind.i64.wrap (Int.tmod (List.getD x.2.2.1 (x.2.1.toNat) 0) (3329:Int))), r1, (3329:Int), ())).bind fun r2 => (
    (g_ref13_width (x.1, ())).bind fun r3 => (
    if r3 = 0 then none else (
    if 0 ≤ x.2.1 then (
    if x.2.1 < 256 then (
    if (x.2.1.toNat) < 256 then (
    kn (x.1, (IntKind.i64.wrap (x.2.1 + (1:Int))), (List.set x.2.2.1 (x.2.1.toNat) (IntKind.u16.wrap (Int.tmod r2 r3))), x.2.2.2.1, ())) else none) else none) else none))))) else none) else none) else none
  else
    ke (x.2.2.1, x.2.2.2.1, ())
noncomputable def p_ref13_Compress_l4_go : Go' ((List Int × List Int × Unit)) := fun y K => K (.exit 0) { tmps := [.one .any, .one .any, .one .any, .one (.sc (.ptr 0 0 none)), .one (.sc (.ptr 1 0 none)), .one .any, .one .any, .one .any, .one .any, .one .any, .one .any, .one .any, .one .any, .one .any, .one .any, .one .any, .one .any, .one .any, .one .any, .one .any, .one .any, .one .any, .one .any, .one .any, .one .any, .one .any, .one .any, .one .any, .one .any, .one .any, .one .any, .one .any, .one .any], mem := [.live { segs := [.xs (.int .u16) 256 y.1], own := .own }, .live { segs := [.xs (.int .u16) 256 y.2.1], own := .own }] }
noncomputable def p_ref13_Compress_l4_L (N : Nat) : LT := upd (LT.nil) 4 (loopE p_ref13_Compress_l4_S N (p_ref13_Compress_l4_F N) p_ref13_Compress_l4_go)
theorem p_ref13_Compress_l4_ok (N : Nat) : OkAll p_ref13_Compress_E p_ref13_Compress_H N (p_ref13_Compress_l4_L N) (subs p_ref13_Compress_c) :=
  addLoop (c := theLoop 4 p_ref13_Compress_c) (OkAll.nil) (by kernel_rfl) (fun x => by kernel_rfl) (fun β x kn ke => by kernel_rfl)
abbrev p_ref13_Compress_ks : List Kd := [.int .i64, .xs (.int .u16) 256]
abbrev p_ref13_Compress_rs : List Kd := [.xs (.int .u16) 256, .int .i64]
noncomputable def p_ref13_Compress (N : Nat) (x : Int × List Int × Unit) : Option (List Int × Int) :=
  if (x.1 < (1:Int)) then
    some ((List.replicate 256 0), (1:Int))
  else
    if (x.1 > (11:Int)) then
      some ((List.replicate 256 0), (1:Int))
    else
      iter (p_ref13_Compress_l4_F N) N (x.1, (0:Int), x.2.1, (List.replicate 256 0), ()) fun y4 => (
      some (y4.1, (0:Int)))
theorem p_ref13_Compress_eq (N : Nat) (x : Ds [.int .i64, .xs (.int .u16) 256]) : funL p_ref13_Compress_E p_ref13_Compress_H (p_ref13_Compress_l4_L N) N Go.Proofs.Try.f15 p_ref13_Compress_c [.int .i64, .xs (.int .u16) 256] [.xs (.int .u16) 256, .int .i64] x = p_ref13_Compress N x := by kernel_rfl
theorem p_ref13_Compress_Eok (he_ref13_width : SigOk Go.Proofs.Try.prog 45 ⟨[.int .i64], [.int .i64], g_ref13_width⟩) (he_ref13_Near : SigOk Go.Proofs.Try.prog 19 ⟨[.int .i64, .int .i64, .int .i64], [.int .i64], g_ref13_Near⟩) : p_ref13_Compress_E.Ok Go.Proofs.Try.prog := AE.of_ok (all_cons ty3_ok (all_cons ty22_ok (all_cons ty24_ok all_nil))) (all_cons ⟨he_ref13_width, enters_ref13_width⟩ (all_cons ⟨he_ref13_Near, enters_ref13_Near⟩ all_nil))
theorem p_ref13_Compress_ok (he_ref13_width : SigOk Go.Proofs.Try.prog 45 ⟨[.int .i64], [.int .i64], g_ref13_width⟩) (he_ref13_Near : SigOk Go.Proofs.Try.prog 19 ⟨[.int .i64, .int .i64, .int .i64], [.int .i64], g_ref13_Near⟩) {g : Ds [.int .i64, .xs (.int .u16) 256] → Option (Rs [.xs (.int .u16) 256, .int .i64])} (hg : ∀ x r, g x = some r → ∃ N, p_ref13_Compress N x = some r) : SigOk Go.Proofs.Try.prog 15 ⟨[.int .i64, .xs (.int .u16) 256], [.xs (.int .u16) 256, .int .i64], g⟩ :=
  fun_of (E := p_ref13_Compress_E) (H := p_ref13_Compress_H) (L := fun N => p_ref13_Compress_l4_L N) (c := p_ref13_Compress_c) (ks := p_ref13_Compress_ks) (rs := p_ref13_Compress_rs) (F := p_ref13_Compress) (p_ref13_Compress_Eok he_ref13_width he_ref13_Near) mix Go.Proofs.Try.func15 (by kernel_rfl) (fun N => p_ref13_Compress_l4_ok N) p_ref13_Compress_eq hg

/-! livery/ring.Decompress -/
noncomputable def p_ring_Decompress_E : AE := AE.of [(22, ty22), (24, ty24), (46, ty46)] []
noncomputable def p_ring_Decompress_H : Hints := [(4, [0, 3, 4, 16, 17]), (2000000, [3, 4]), (2000001, [0, 3, 4, 16, 17]), (3000000, [4, 5])]
noncomputable def p_ring_Decompress_c : Code := (Go.Proofs.Try.f16).body.getD .skip
noncomputable def p_ring_Decompress_l4_S : Shape where
  h := { tmps := [.sc (.int .i64), .any, .any, .sc (.ptr 0 0 false), .sc (.ptr 1 0 false), .any, .any, .any, .any, .any, .any, .any, .any, .any, .any, .any, .agg [.xs (.int .u16) (some 256)], .sc (.int .i64), .any, .any, .any, .any, .any, .any, .any, .any, .any, .any, .any, .any, .any, .any, .any, .any, .any, .any, .any, .any, .any], mem := [.live [.xs (.int .u16) (some 256)] (.own), .live [.xs (.int .u16) (some 256)] (.own)] }
  ks := [.int, .xs, .int, .xs, .xs]
  st := fun x => { tmps := [.one (.sc (.int .i64 x.1)), .one .any, .one .any, .one (.sc (.ptr 0 0 none)), .one (.sc (.ptr 1 0 none)), .one .any, .one .any, .one .any, .one .any, .one .any, .one .any, .one .any, .one .any, .one .any, .one .any, .one .any, .one (.agg [.xs (.int .u16) 256 x.2.1]), .one (.sc (.int .i64 x.2.2.1)), .one .any, .one .any, .one .any, .one .any, .one .any, .one .any, .one .any, .one .any, .one .any, .one .any, .one .any, .one .any, .one .any, .one .any, .one .any, .one .any, .one .any, .one .any, .one .any, .one .any, .one .any], mem := [.live { segs := [.xs (.int .u16) 256 x.2.2.2.1], own := .own }, .live { segs := [.xs (.int .u16) 256 x.2.2.2.2.1], own := .own }] }
noncomputable def p_ring_Decompress_l4_F (N : Nat) (β : Type) (x : (Int × List Int × Int × List Int × List Int × Unit)) (kn : (Int × List Int × Int × List Int × List Int × Unit) → Option β) (ke : ((List Int × List Int × Unit)) → Option β) : Option β :=
  if (x.2.2.1 < (256:Int)) then
    if 0 ≤ x.2.2.1 then (
    if x.2.2.1 < 256 then (
    if (x.2.2.1.toNat) < 256 then (
    if x.1 < 0 then none else (
    if (ishl IntKind.u32 (1:Int) x.1) = 0 then none else (
    if x.1 < 0 then none else (
    if (IntKind.i64.wrap (x.1 + (1:Int))) < 0 then none else (
    if 0 ≤ x.2.2.1 then (
    if x.2.2.1 < 256 then (
    if (x.2.2.1.toNat) < 256 then (
    kn (x.1, x.2.1, (IntKind.i64.wrap (x.2.2.1 + (1:Int))), (List.set x.2.2.2.1 (x.2.2.1.toNat) (IntKind.u16.wrap (ishr IntKind.u32 (IntKind.u32.wrap ((IntKind.u32.wrap ((6658:Int) * (Int.tmod (IntKind.u32.wrap (List.getD x.2.1 (x.2.2.1.toNat) 0)) (ishl IntKind.u32 (1:Int) x.1)))) + (ishl IntKind.u32 (1:Int) x.1))) (IntKind.i64.wrap (x.1 + (1:Int)))))), x.2.2.2.2.1, ())) else none) else none) else none))))) else none) else none) else none
  else
    ke (x.2.2.2.1, x.2.2.2.2.1, ())
noncomputable def p_ring_Decompress_l4_go : Go' ((List Int × List Int × Unit)) := fun y K => K (.exit 0) { tmps := [.one .any, .one .any, .one .any, .one (.sc (.ptr 0 0 none)), .one (.sc (.ptr 1 0 none)), .one .any, .one .any, .one .any, .one .any, .one .any, .one .any, .one .any, .one .any, .one .any, .one .any, .one .any, .one .any, .one .any, .one .any, .one .any, .one .any, .one .any, .one .any, .one .any, .one .any, .one .any, .one .any, .one .any, .one .any, .one .any, .one .any, .one .any, .one .any, .one .any, .one .any, .one .any, .one .any, .one .any, .one .any], mem := [.live { segs := [.xs (.int .u16) 256 y.1], own := .own }, .live { segs := [.xs (.int .u16) 256 y.2.1], own := .own }] }
noncomputable def p_ring_Decompress_l4_L (N : Nat) : LT := upd (LT.nil) 4 (loopE p_ring_Decompress_l4_S N (p_ring_Decompress_l4_F N) p_ring_Decompress_l4_go)
theorem p_ring_Decompress_l4_ok (N : Nat) : OkAll p_ring_Decompress_E p_ring_Decompress_H N (p_ring_Decompress_l4_L N) (subs p_ring_Decompress_c) :=
  addLoop (c := theLoop 4 p_ring_Decompress_c) (OkAll.nil) (by kernel_rfl) (fun x => by kernel_rfl) (fun β x kn ke => by kernel_rfl)
abbrev p_ring_Decompress_ks : List Kd := [.int .i64, .xs (.int .u16) 256]
abbrev p_ring_Decompress_rs : List Kd := [.xs (.int .u16) 256, .int .i64]
noncomputable def p_ring_Decompress (N : Nat) (x : Int × List Int × Unit) : Option (List Int × Int) :=
  if (x.1 < (1:Int)) then
    some ((List.replicate 256 0), (1:Int))
  else
    if (x.1 > (11:Int)) then
      some ((List.replicate 256 0), (1:Int))
    else
      iter (p_ring_Decompress_l4_F N) N (x.1, x.2.1, (0:Int), x.2.1, (List.replicate 256 0), ()) fun y1 => (
      some (y1.1, (0:Int)))
theorem p_ring_Decompress_eq (N : Nat) (x : Ds [.int .i64, .xs (.int .u16) 256]) : funL p_ring_Decompress_E p_ring_Decompress_H (p_ring_Decompress_l4_L N) N Go.Proofs.Try.f16 p_ring_Decompress_c [.int .i64, .xs (.int .u16) 256] [.xs (.int .u16) 256, .int .i64] x = p_ring_Decompress N x := by kernel_rfl
theorem p_ring_Decompress_Eok : p_ring_Decompress_E.Ok Go.Proofs.Try.prog := AE.of_ok (all_cons ty22_ok (all_cons ty24_ok (all_cons ty46_ok all_nil))) all_nil
theorem p_ring_Decompress_ok {g : Ds [.int .i64, .xs (.int .u16) 256] → Option (Rs [.xs (.int .u16) 256, .int .i64])} (hg : ∀ x r, g x = some r → ∃ N, p_ring_Decompress N x = some r) : SigOk Go.Proofs.Try.prog 16 ⟨[.int .i64, .xs (.int .u16) 256], [.xs (.int .u16) 256, .int .i64], g⟩ :=
  fun_of (E := p_ring_Decompress_E) (H := p_ring_Decompress_H) (L := fun N => p_ring_Decompress_l4_L N) (c := p_ring_Decompress_c) (ks := p_ring_Decompress_ks) (rs := p_ring_Decompress_rs) (F := p_ring_Decompress) (p_ring_Decompress_Eok) mix Go.Proofs.Try.func16 (by kernel_rfl) (fun N => p_ring_Decompress_l4_ok N) p_ring_Decompress_eq hg

/-! livery/liveryref13.Decompress -/
noncomputable def p_ref13_Decompress_E : AE := AE.of [(3, ty3), (22, ty22), (24, ty24)] [(45, ⟨[.int .i64], [.int .i64], g_ref13_width⟩), (19, ⟨[.int .i64, .int .i64, .int .i64], [.int .i64], g_ref13_Near⟩)]
noncomputable def p_ref13_Decompress_H : Hints := [(4, [0, 3, 4, 14]), (2000000, [3, 4]), (2000001, [0, 3, 4, 14]), (3000000, [4, 5])]
noncomputable def p_ref13_Decompress_c : Code := (Go.Proofs.Try.f17).body.getD .skip
noncomputable def p_ref13_Decompress_l4_S : Shape where
  h := { tmps := [.sc (.int .i64), .any, .any, .sc (.ptr 0 0 false), .sc (.ptr 1 0 false), .any, .any, .any, .any, .any, .any, .any, .any, .any, .sc (.int .i64), .any, .any, .any, .any, .any, .any, .any, .any, .any, .any, .any, .any, .any, .any, .any, .any, .any], mem := [.live [.xs (.int .u16) (some 256)] (.own), .live [.xs (.int .u16) (some 256)] (.own)] }
  ks := [.int, .int, .xs, .xs]
  st := fun x => { tmps := [.one (.sc (.int .i64 x.1)), .one .any, .one .any, .one (.sc (.ptr 0 0 none)), .one (.sc (.ptr 1 0 none)), .one .any, .one .any, .one .any, .one .any, .one .any, .one .any, .one .any, .one .any, .one .any, .one (.sc (.int .i64 x.2.1)), .one .any, .one .any, .one .any, .one .any, .one .any, .one .any, .one .any, .one .any, .one .any, .one .any, .one .any, .one .any, .one .any, .one .any, .one .any, .one .any, .one .any], mem := [.live { segs := [.xs (.int .u16) 256 x.2.2.1], own := .own }, .live { segs := [.xs (.int .u16) 256 x.2.2.2.1], own := .own }] }
noncomputable def p_ref13_Decompress_l4_F (N : Nat) (β : Type) (x : (Int × Int × List Int × List Int × Unit)) (kn : (Int × Int × List Int × List Int × Unit) → Option β) (ke : ((List Int × List Int × Unit)) → Option β) : Option β :=
  if (x.2.1 < (256:Int)) then
    if 0 ≤ x.2.1 then (
    if x.2.1 < 256 then (
    if (x.2.1.toNat) < 256 then (
    (g_ref13_width (x.1, ())).bind fun r1 => (
    if r1 = 0 then none else (
    (g_ref13_width (x.1, ())).bind fun r2 => (
    (g_ref13_Near ((Int.tmod (IntKind.i64.wrap (List.getD x.2.2.1 (x.2.1.toNat) 0)) r1), (3329:Int), r2, ())).bind fun r3 => (
    if 0 ≤ x.2.1 then (
    if x.2.1 < 256 then (
    if (x.2.1.toNat) < 256 then (
    kn (x.1, (IntKind.i64.wrap (x.2.1 + (1:Int))), (List.set x.2.2.1 (x.2.1.toNat) (IntKind.u16.wrap r3)), x.2.2.2.1, ())) else none) else none) else none))))) else none) else none) else none
  else
    ke (x.2.2.1, x.2.2.2.1, ())
noncomputable def p_ref13_Decompress_l4_go : Go' ((List Int × List Int × Unit)) := fun y K => K (.exit 0) { tmps := [.one .any, .one .any, .one .any, .one (.sc (.ptr 0 0 none)), .one (.sc (.ptr 1 0 none)), .one .any, .one .any, .one .any, .one .any, .one .any, .one .any, .one .any, .one .any, .one .any, .one .any, .one .any, .one .any, .one .any, .one .any, .one .any, .one .any, .one .any, .one .any, .one .any, .one .any, .one .any, .one .any, .one .any, .one .any, .one .any, .one .any, .one .any], mem := [.live { segs := [.xs (.int .u16) 256 y.1], own := .own }, .live { segs := [.xs (.int .u16) 256 y.2.1], own := .own }] }
noncomputable def p_ref13_Decompress_l4_L (N : Nat) : LT := upd (LT.nil) 4 (loopE p_ref13_Decompress_l4_S N (p_ref13_Decompress_l4_F N) p_ref13_Decompress_l4_go)
theorem p_ref13_Decompress_l4_ok (N : Nat) : OkAll p_ref13_Decompress_E p_ref13_Decompress_H N (p_ref13_Decompress_l4_L N) (subs p_ref13_Decompress_c) :=
  addLoop (c := theLoop 4 p_ref13_Decompress_c) (OkAll.nil) (by kernel_rfl) (fun x => by kernel_rfl) (fun β x kn ke => by kernel_rfl)
abbrev p_ref13_Decompress_ks : List Kd := [.int .i64, .xs (.int .u16) 256]
abbrev p_ref13_Decompress_rs : List Kd := [.xs (.int .u16) 256, .int .i64]
noncomputable def p_ref13_Decompress (N : Nat) (x : Int × List Int × Unit) : Option (List Int × Int) :=
  if (x.1 < (1:Int)) then
    some ((List.replicate 256 0), (1:Int))
  else
    if (x.1 > (11:Int)) then
      some ((List.replicate 256 0), (1:Int))
    else
      iter (p_ref13_Decompress_l4_F N) N (x.1, (0:Int), x.2.1, (List.replicate 256 0), ()) fun y4 => (
      some (y4.1, (0:Int)))
theorem p_ref13_Decompress_eq (N : Nat) (x : Ds [.int .i64, .xs (.int .u16) 256]) : funL p_ref13_Decompress_E p_ref13_Decompress_H (p_ref13_Decompress_l4_L N) N Go.Proofs.Try.f17 p_ref13_Decompress_c [.int .i64, .xs (.int .u16) 256] [.xs (.int .u16) 256, .int .i64] x = p_ref13_Decompress N x := by kernel_rfl
theorem p_ref13_Decompress_Eok (he_ref13_width : SigOk Go.Proofs.Try.prog 45 ⟨[.int .i64], [.int .i64], g_ref13_width⟩) (he_ref13_Near : SigOk Go.Proofs.Try.prog 19 ⟨[.int .i64, .int .i64, .int .i64], [.int .i64], g_ref13_Near⟩) : p_ref13_Decompress_E.Ok Go.Proofs.Try.prog := AE.of_ok (all_cons ty3_ok (all_cons ty22_ok (all_cons ty24_ok all_nil))) (all_cons ⟨he_ref13_width, enters_ref13_width⟩ (all_cons ⟨he_ref13_Near, enters_ref13_Near⟩ all_nil))
theorem p_ref13_Decompress_ok (he_ref13_width : SigOk Go.Proofs.Try.prog 45 ⟨[.int .i64], [.int .i64], g_ref13_width⟩) (he_ref13_Near : SigOk Go.Proofs.Try.prog 19 ⟨[.int .i64, .int .i64, .int .i64], [.int .i64], g_ref13_Near⟩) {g : Ds [.int .i64, .xs (.int .u16) 256] → Option (Rs [.xs (.int .u16) 256, .int .i64])} (hg : ∀ x r, g x = some r → ∃ N, p_ref13_Decompress N x = some r) : SigOk Go.Proofs.Try.prog 17 ⟨[.int .i64, .xs (.int .u16) 256], [.xs (.int .u16) 256, .int .i64], g⟩ :=
  fun_of (E := p_ref13_Decompress_E) (H := p_ref13_Decompress_H) (L := fun N => p_ref13_Decompress_l4_L N) (c := p_ref13_Decompress_c) (ks := p_ref13_Decompress_ks) (rs := p_ref13_Decompress_rs) (F := p_ref13_Decompress) (p_ref13_Decompress_Eok he_ref13_width he_ref13_Near) mix Go.Proofs.Try.func17 (by kernel_rfl) (fun N => p_ref13_Decompress_l4_ok N) p_ref13_Decompress_eq hg

/-! math/bits.Reverse8 -/
noncomputable def p_bits_Reverse8_s0 : ByteArray := ⟨#[0, 128, 64, 192, 32, 160, 96, 224, 16, 144, 80, 208, 48, 176, 112, 240, 8, 136, 72, 200, 40, 168, 104, 232, 24, 152, 88, 216, 56, 184, 120, 248, 4, 132, 68, 196, 36, 164, 100, 228, 20, 148, 84, 212, 52, 180, 116, 244, 12, 140, 76, 204, 44, 172, 108, 236, 28, 156, 92, 220, 60, 188, 124, 252, 2, 130, 66, 194, 34, 162, 98, 226, 18, 146, 82, 210, 50, 178, 114, 242, 10, 138, 74, 202, 42, 170, 106, 234, 26, 154, 90, 218, 58, 186, 122, 250, 6, 134, 70, 198, 38, 166, 102, 230, 22, 150, 86, 214, 54, 182, 118, 246, 14, 142, 78, 206, 46, 174, 110, 238, 30, 158, 94, 222, 62, 190, 126, 254, 1, 129, 65, 193, 33, 161, 97, 225, 17, 145, 81, 209, 49, 177, 113, 241, 9, 137, 73, 201, 41, 169, 105, 233, 25, 153, 89, 217, 57, 185, 121, 249, 5, 133, 69, 197, 37, 165, 101, 229, 21, 149, 85, 213, 53, 181, 117, 245, 13, 141, 77, 205, 45, 173, 109, 237, 29, 157, 93, 221, 61, 189, 125, 253, 3, 131, 67, 195, 35, 163, 99, 227, 19, 147, 83, 211, 51, 179, 115, 243, 11, 139, 75, 203, 43, 171, 107, 235, 27, 155, 91, 219, 59, 187, 123, 251, 7, 135, 71, 199, 39, 167, 103, 231, 23, 151, 87, 215, 55, 183, 119, 247, 15, 143, 79, 207, 47, 175, 111, 239, 31, 159, 95, 223, 63, 191, 127, 255]⟩
noncomputable def p_bits_Reverse8_E : AE := AE.of [(9, ty9)] []
noncomputable def p_bits_Reverse8_H : Hints := [(3000000, [2])]
noncomputable def p_bits_Reverse8_c : Code := (Go.Proofs.Try.f58).body.getD .skip
abbrev p_bits_Reverse8_ks : List Kd := [.int .u8]
abbrev p_bits_Reverse8_rs : List Kd := [.int .u8]
noncomputable def p_bits_Reverse8 (N : Nat) (x : Int × Unit) : Option (Int) :=
  if 0 ≤ x.1 then (
  if x.1 < ((ByteArray.size p_bits_Reverse8_s0 : Nat) : Int) then (
  some (bt p_bits_Reverse8_s0 (x.1.toNat))) else none) else none
theorem p_bits_Reverse8_eq (N : Nat) (x : Ds [.int .u8]) : funL p_bits_Reverse8_E p_bits_Reverse8_H (LT.nil) N Go.Proofs.Try.f58 p_bits_Reverse8_c [.int .u8] [.int .u8] x = p_bits_Reverse8 N x := by kernel_rfl
theorem p_bits_Reverse8_Eok : p_bits_Reverse8_E.Ok Go.Proofs.Try.prog := AE.of_ok (all_cons ty9_ok all_nil) all_nil
theorem p_bits_Reverse8_ok {g : Ds [.int .u8] → Option (Rs [.int .u8])} (hg : ∀ x r, g x = some r → ∃ N, p_bits_Reverse8 N x = some r) : SigOk Go.Proofs.Try.prog 58 ⟨[.int .u8], [.int .u8], g⟩ :=
  fun_of (E := p_bits_Reverse8_E) (H := p_bits_Reverse8_H) (L := fun N => LT.nil) (c := p_bits_Reverse8_c) (ks := p_bits_Reverse8_ks) (rs := p_bits_Reverse8_rs) (F := p_bits_Reverse8) (p_bits_Reverse8_Eok) mix Go.Proofs.Try.func58 (by kernel_rfl) (fun N => OkAll.nil) p_bits_Reverse8_eq hg

/-! livery/ring.powers -/
noncomputable def p_ring_powers_E : AE := AE.of [(3, ty3), (5, ty5), (22, ty22), (48, ty48)] [(47, ⟨[.int .u16, .int .u16], [.int .u16], g_ring_times⟩), (58, ⟨[.int .u8], [.int .u8], g_bits_Reverse8⟩)]
noncomputable def p_ring_powers_H : Hints := [(4, [0, 1, 2, 3]), (8, [0, 1, 2, 17]), (2000000, [0, 1, 2]), (2000001, [0, 1, 2, 3]), (2000002, [0, 2]), (2000003, [0, 1, 2, 17]), (3000000, [0])]
noncomputable def p_ring_powers_c : Code := (Go.Proofs.Try.f46).body.getD .skip
noncomputable def p_ring_powers_l4_S : Shape where
  h := { tmps := [.sc (.ptr 0 0 false), .sc (.ptr 1 0 false), .sc (.ptr 2 0 false), .sc (.int .i64), .any, .any, .any, .any, .any, .any, .any, .any, .any, .any, .any, .any, .any, .any, .any, .any, .any, .any, .any, .any, .any, .any, .any, .any, .any, .any], mem := [.live [.xs (.int .u16) (some 128)] (.own), .live [.xs (.int .u16) (some 128)] (.own), .live [.xs (.int .u16) (some 128)] (.own)] }
  ks := [.int, .xs, .xs, .xs]
  st := fun x => { tmps := [.one (.sc (.ptr 0 0 none)), .one (.sc (.ptr 1 0 none)), .one (.sc (.ptr 2 0 none)), .one (.sc (.int .i64 x.1)), .one .any, .one .any, .one .any, .one .any, .one .any, .one .any, .one .any, .one .any, .one .any, .one .any, .one .any, .one .any, .one .any, .one .any, .one .any, .one .any, .one .any, .one .any, .one .any, .one .any, .one .any, .one .any, .one .any, .one .any, .one .any, .one .any], mem := [.live { segs := [.xs (.int .u16) 128 x.2.1], own := .own }, .live { segs := [.xs (.int .u16) 128 x.2.2.1], own := .own }, .live { segs := [.xs (.int .u16) 128 x.2.2.2.1], own := .own }] }
noncomputable def p_ring_powers_l4_F (N : Nat) (β : Type) (x : (Int × List Int × List Int × List Int × Unit)) (kn : (Int × List Int × List Int × List Int × Unit) → Option β) (ke : ((List Int × List Int × List Int × Unit)) → Option β) : Option β :=
  if (x.1 < (128:Int)) then
    if 0 ≤ (IntKind.i64.wrap (x.1 - (1:Int))) then (
    if (IntKind.i64.wrap (x.1 - (1:Int))) < 128 then (
    if ((IntKind.i64.wrap (x.1 - (1:Int))).toNat) < 128 then (
    (g_ring_times ((List.getD x.2.2.1 ((IntKind.i64.wrap (x.1 - (1:Int))).toNat) 0), (17:Int), ())).bind fun r1 => (
    if 0 ≤ x.1 then (
    if x.1 < 128 then (
    if (x.1.toNat) < 128 then (
    kn ((IntKind.i64.wrap (x.1 + (1:Int))), x.2.1, (List.set x.2.2.1 (x.1.toNat) r1), x.2.2.2.1, ())) else none) else none) else none)) else none) else none) else none
  else
    ke (x.2.1, x.2.2.1, x.2.2.2.1, ())
noncomputable def p_ring_powers_l4_go : Go' ((List Int × List Int × List Int × Unit)) := fun y K => K (.exit 0) { tmps := [.one (.sc (.ptr 0 0 none)), .one (.sc (.ptr 1 0 none)), .one (.sc (.ptr 2 0 none)), .one .any, .one .any, .one .any, .one .any, .one .any, .one .any, .one .any, .one .any, .one .any, .one .any, .one .any, .one .any, .one .any, .one .any, .one .any, .one .any, .one .any, .one .any, .one .any, .one .any, .one .any, .one .any, .one .any, .one .any, .one .any, .one .any, .one .any], mem := [.live { segs := [.xs (.int .u16) 128 y.1], own := .own }, .live { segs := [.xs (.int .u16) 128 y.2.1], own := .own }, .live { segs := [.xs (.int .u16) 128 y.2.2.1], own := .own }] }
noncomputable def p_ring_powers_l4_L (N : Nat) : LT := upd (LT.nil) 4 (loopE p_ring_powers_l4_S N (p_ring_powers_l4_F N) p_ring_powers_l4_go)
theorem p_ring_powers_l4_ok (N : Nat) : OkAll p_ring_powers_E p_ring_powers_H N (p_ring_powers_l4_L N) (subs p_ring_powers_c) :=
  addLoop (c := theLoop 4 p_ring_powers_c) (OkAll.nil) (by kernel_rfl) (fun x => by kernel_rfl) (fun β x kn ke => by kernel_rfl)
noncomputable def p_ring_powers_l8_S : Shape where
  h := { tmps := [.sc (.ptr 0 0 false), .sc (.ptr 1 0 false), .sc (.ptr 2 0 false), .any, .any, .any, .any, .any, .any, .any, .any, .any, .any, .any, .any, .any, .any, .sc (.int .i64), .any, .any, .any, .any, .any, .any, .any, .any, .any, .any, .any, .any], mem := [.live [.xs (.int .u16) (some 128)] (.own), .live [.xs (.int .u16) (some 128)] (.own), .live [.xs (.int .u16) (some 128)] (.own)] }
  ks := [.int, .xs, .xs, .xs]
  st := fun x => { tmps := [.one (.sc (.ptr 0 0 none)), .one (.sc (.ptr 1 0 none)), .one (.sc (.ptr 2 0 none)), .one .any, .one .any, .one .any, .one .any, .one .any, .one .any, .one .any, .one .any, .one .any, .one .any, .one .any, .one .any, .one .any, .one .any, .one (.sc (.int .i64 x.1)), .one .any, .one .any, .one .any, .one .any, .one .any, .one .any, .one .any, .one .any, .one .any, .one .any, .one .any, .one .any], mem := [.live { segs := [.xs (.int .u16) 128 x.2.1], own := .own }, .live { segs := [.xs (.int .u16) 128 x.2.2.1], own := .own }, .live { segs := [.xs (.int .u16) 128 x.2.2.2.1], own := .own }] }
noncomputable def p_ring_powers_l8_F (N : Nat) (β : Type) (x : (Int × List Int × List Int × List Int × Unit)) (kn : (Int × List Int × List Int × List Int × Unit) → Option β) (ke : ((List Int × List Int × Unit)) → Option β) : Option β :=
  if (x.1 < (128:Int)) then
    (g_bits_Reverse8 ((IntKind.u8.wrap x.1), ())).bind fun r3 => (
    if 0 ≤ (ishr IntKind.u8 r3 (1:Int)) then (
    if (ishr IntKind.u8 r3 (1:Int)) < 128 then (
    if ((ishr IntKind.u8 r3 (1:Int)).toNat) < 128 then (
    if 0 ≤ x.1 then (
    if x.1 < 128 then (
    if (x.1.toNat) < 128 then (
    kn ((IntKind.i64.wrap (x.1 + (1:Int))), x.2.1, x.2.2.1, (List.set x.2.2.2.1 (x.1.toNat) (List.getD x.2.2.1 ((ishr IntKind.u8 r3 (1:Int)).toNat) 0)), ())) else none) else none) else none) else none) else none) else none)
  else
    ke (x.2.1, x.2.2.2.1, ())
noncomputable def p_ring_powers_l8_go : Go' ((List Int × List Int × Unit)) := fun y K => K (.exit 2) { tmps := [.one (.sc (.ptr 0 0 none)), .one .any, .one (.sc (.ptr 1 0 none)), .one .any, .one .any, .one .any, .one .any, .one .any, .one .any, .one .any, .one .any, .one .any, .one .any, .one .any, .one .any, .one .any, .one .any, .one .any, .one .any, .one .any, .one .any, .one .any, .one .any, .one .any, .one .any, .one .any, .one .any, .one .any, .one .any, .one .any], mem := [.live { segs := [.xs (.int .u16) 128 y.1], own := .own }, .live { segs := [.xs (.int .u16) 128 y.2.1], own := .own }] }
noncomputable def p_ring_powers_l8_L (N : Nat) : LT := upd (p_ring_powers_l4_L N) 8 (loopE p_ring_powers_l8_S N (p_ring_powers_l8_F N) p_ring_powers_l8_go)
theorem p_ring_powers_l8_ok (N : Nat) : OkAll p_ring_powers_E p_ring_powers_H N (p_ring_powers_l8_L N) (subs p_ring_powers_c) :=
  addLoop (c := theLoop 8 p_ring_powers_c) (p_ring_powers_l4_ok N) (by kernel_rfl) (fun x => by kernel_rfl) (fun β x kn ke => by kernel_rfl)
abbrev p_ring_powers_ks : List Kd := []
abbrev p_ring_powers_rs : List Kd := [.xs (.int .u16) 128]
noncomputable def p_ring_powers (N : Nat) (x : Unit) : Option (List Int) :=
  iter (p_ring_powers_l4_F N) N ((1:Int), (List.replicate 128 0), (List.set (List.replicate 128 0) 0 (1:Int)), (List.replicate 128 0), ()) fun y2 => (
  iter (p_ring_powers_l8_F N) N ((0:Int), y2.1, y2.2.1, y2.2.2.1, ()) fun y4 => (
  some y4.2.1))
theorem p_ring_powers_eq (N : Nat) (x : Ds []) : funL p_ring_powers_E p_ring_powers_H (p_ring_powers_l8_L N) N Go.Proofs.Try.f46 p_ring_powers_c [] [.xs (.int .u16) 128] x = p_ring_powers N x := by kernel_rfl
theorem p_ring_powers_Eok (he_ring_times : SigOk Go.Proofs.Try.prog 47 ⟨[.int .u16, .int .u16], [.int .u16], g_ring_times⟩) (he_bits_Reverse8 : SigOk Go.Proofs.Try.prog 58 ⟨[.int .u8], [.int .u8], g_bits_Reverse8⟩) : p_ring_powers_E.Ok Go.Proofs.Try.prog := AE.of_ok (all_cons ty3_ok (all_cons ty5_ok (all_cons ty22_ok (all_cons ty48_ok all_nil)))) (all_cons ⟨he_ring_times, enters_ring_times⟩ (all_cons ⟨he_bits_Reverse8, enters_bits_Reverse8⟩ all_nil))
theorem p_ring_powers_ok (he_ring_times : SigOk Go.Proofs.Try.prog 47 ⟨[.int .u16, .int .u16], [.int .u16], g_ring_times⟩) (he_bits_Reverse8 : SigOk Go.Proofs.Try.prog 58 ⟨[.int .u8], [.int .u8], g_bits_Reverse8⟩) {g : Ds [] → Option (Rs [.xs (.int .u16) 128])} (hg : ∀ x r, g x = some r → ∃ N, p_ring_powers N x = some r) : SigOk Go.Proofs.Try.prog 46 ⟨[], [.xs (.int .u16) 128], g⟩ :=
  fun_of (E := p_ring_powers_E) (H := p_ring_powers_H) (L := fun N => p_ring_powers_l8_L N) (c := p_ring_powers_c) (ks := p_ring_powers_ks) (rs := p_ring_powers_rs) (F := p_ring_powers) (p_ring_powers_Eok he_ring_times he_bits_Reverse8) mix Go.Proofs.Try.func46 (by kernel_rfl) (fun N => p_ring_powers_l8_ok N) p_ring_powers_eq hg

/-! livery/ring.Ntt -/
noncomputable def p_ring_Ntt_E : AE := AE.of [(22, ty22), (24, ty24), (48, ty48)] [(37, ⟨[.xs (.int .u16) 256], [.xs (.int .u16) 256], g_ring_Reduce⟩), (46, ⟨[], [.xs (.int .u16) 128], g_ring_powers⟩), (47, ⟨[.int .u16, .int .u16], [.int .u16], g_ring_times⟩)]
noncomputable def p_ring_Ntt_H : Hints := [(5, [1, 2, 3, 4, 5]), (8, [1, 2, 3, 4, 5, 6]), (11, [1, 2, 3, 4, 5, 6, 7]), (2000000, [1, 2]), (2000001, [1, 2, 3, 4, 5]), (2000002, [1, 2, 3, 4, 5]), (2000003, [1, 2, 3, 4, 5, 6]), (2000004, [1, 2, 3, 4, 5, 6]), (2000005, [1, 2, 3, 4, 5, 6, 7]), (3000000, [2])]
noncomputable def p_ring_Ntt_c : Code := (Go.Proofs.Try.f24).body.getD .skip
noncomputable def p_ring_Ntt_l11_S : Shape where
  h := { tmps := [.any, .sc (.ptr 0 0 false), .sc (.ptr 1 0 false), .sc (.ptr 2 0 false), .sc (.int .i64), .sc (.int .i64), .sc (.int .i64), .sc (.int .i64), .any, .any, .any, .any, .any, .any, .any, .any, .any, .any, .any, .any, .any, .any, .any, .any, .any, .any, .any, .any, .any, .any, .any, .any, .any, .any, .any, .any, .any, .any, .any, .any, .any, .any, .any, .any, .any, .any, .any, .any, .any, .any, .any, .any, .any, .any, .any, .any, .any, .any, .any, .any, .any], mem := [.live [.xs (.int .u16) (some 256)] (.own), .live [.xs (.int .u16) (some 256)] (.own), .live [.xs (.int .u16) (some 128)] (.own)] }
  ks := [.int, .int, .int, .int, .xs, .xs, .xs]
  st := fun x => { tmps := [.one .any, .one (.sc (.ptr 0 0 none)), .one (.sc (.ptr 1 0 none)), .one (.sc (.ptr 2 0 none)), .one (.sc (.int .i64 x.1)), .one (.sc (.int .i64 x.2.1)), .one (.sc (.int .i64 x.2.2.1)), .one (.sc (.int .i64 x.2.2.2.1)), .one .any, .one .any, .one .any, .one .any, .one .any, .one .any, .one .any, .one .any, .one .any, .one .any, .one .any, .one .any, .one .any, .one .any, .one .any, .one .any, .one .any, .one .any, .one .any, .one .any, .one .any, .one .any, .one .any, .one .any, .one .any, .one .any, .one .any, .one .any, .one .any, .one .any, .one .any, .one .any, .one .any, .one .any, .one .any, .one .any, .one .any, .one .any, .one .any, .one .any, .one .any, .one .any, .one .any, .one .any, .one .any, .one .any, .one .any, .one .any, .one .any, .one .any, .one .any, .one .any, .one .any], mem := [.live { segs := [.xs (.int .u16) 256 x.2.2.2.2.1], own := .own }, .live { segs := [.xs (.int .u16) 256 x.2.2.2.2.2.1], own := .own }, .live { segs := [.xs (.int .u16) 128 x.2.2.2.2.2.2.1], own := .own }] }
noncomputable def p_ring_Ntt_l11_F (N : Nat) (β : Type) (x : (Int × Int × Int × Int × List Int × List Int × List Int × Unit)) (kn : (Int × Int × Int × Int × List Int × List Int × List Int × Unit) → Option β) (ke : ((Int × Int × Int × List Int × List Int × List Int × Unit)) → Option β) : Option β :=
  if (x.2.2.2.1 < (IntKind.i64.wrap (x.2.2.1 + x.2.1))) then
    if 0 ≤ x.1 then (
    if x.1 < 128 then (
    if (x.1.toNat) < 128 then (
    if 0 ≤ (IntKind.i64.wrap (x.2.2.2.1 + x.2.1)) then (
    if (IntKind.i64.wrap (x.2.2.2.1 + x.2.1)) < 256 then (
    if ((IntKind.i64.wrap (x.2.2.2.1 + x.2.1)).toNat) < 256 then (
    (g_ring_times ((List.getD x.2.2.2.2.2.2.1 (x.1.toNat) 0), (List.getD x.2.2.2.2.1 ((IntKind.i64.wrap (x.2.2.2.1 + x.2.1)).toNat) 0), ())).bind fun r3 => (
    if 0 ≤ x.2.2.2.1 then (
    if x.2.2.2.1 < 256 then (
    if (x.2.2.2.1.toNat) < 256 then (
    if 0 ≤ x.2.2.2.1 then (
    if x.2.2.2.1 < 256 then (
    if (x.2.2.2.1.toNat) < 256 then (
    if 0 ≤ x.2.2.2.1 then (
    if x.2.2.2.1 < 256 then (
    if (x.2.2.2.1.toNat) < 256 then (
    if 0 ≤ (IntKind.i64.wrap (x.2.2.2.1 + x.2.1)) then (
    if (IntKind.i64.wrap (x.2.2.2.1 + x.2.1)) < 256 then (
    if ((IntKind.i64.wrap (x.2.2.2.1 + x.2.1)).toNat) < 256 then (
    kn (x.1, x.2.1, x.2.2.1, (IntKind.i64.wrap (x.2.2.2.1 + (1:Int))), (List.set (List.set x.2.2.2.2.1 (x.2.2.2.1.toNat) (Int.tmod (IntKind.u16.wrap ((List.getD x.2.2.2.2.1 (x.2.2.2.1.toNat) 0) + r3)) (3329:Int))) ((IntKind.i64.wrap (x.2.2.2.1 + x.2.1)).toNat) (Int.tmod (IntKind.u16.wrap ((IntKind.u16.wrap ((List.getD x.2.2.2.2.1 (x.2.2.2.1.toNat) 0) + (3329:Int))) - r3)) (3329:Int))), x.2.2.2.2.2.1, x.2.2.2.2.2.2.1, ())) else none) else none) else none) else none) else none) else none) else none) else none) else none) else none) else none) else none)) else none) else none) else none) else none) else none) else none
  else
    ke (x.1, x.2.1, x.2.2.1, x.2.2.2.2.1, x.2.2.2.2.2.1, x.2.2.2.2.2.2.1, ())
noncomputable def p_ring_Ntt_l11_go : Go' ((Int × Int × Int × List Int × List Int × List Int × Unit)) := fun y K => K (.exit 4) { tmps := [.one .any, .one (.sc (.ptr 0 0 none)), .one (.sc (.ptr 1 0 none)), .one (.sc (.ptr 2 0 none)), .one (.sc (.int .i64 y.1)), .one (.sc (.int .i64 y.2.1)), .one (.sc (.int .i64 y.2.2.1)), .one .any, .one .any, .one .any, .one .any, .one .any, .one .any, .one .any, .one .any, .one .any, .one .any, .one .any, .one .any, .one .any, .one .any, .one .any, .one .any, .one .any, .one .any, .one .any, .one .any, .one .any, .one .any, .one .any, .one .any, .one .any, .one .any, .one .any, .one .any, .one .any, .one .any, .one .any, .one .any, .one .any, .one .any, .one .any, .one .any, .one .any, .one .any, .one .any, .one .any, .one .any, .one .any, .one .any, .one .any, .one .any, .one .any, .one .any, .one .any, .one .any, .one .any, .one .any, .one .any, .one .any, .one .any], mem := [.live { segs := [.xs (.int .u16) 256 y.2.2.2.1], own := .own }, .live { segs := [.xs (.int .u16) 256 y.2.2.2.2.1], own := .own }, .live { segs := [.xs (.int .u16) 128 y.2.2.2.2.2.1], own := .own }] }
noncomputable def p_ring_Ntt_l11_L (N : Nat) : LT := upd (LT.nil) 11 (loopE p_ring_Ntt_l11_S N (p_ring_Ntt_l11_F N) p_ring_Ntt_l11_go)
theorem p_ring_Ntt_l11_ok (N : Nat) : OkAll p_ring_Ntt_E p_ring_Ntt_H N (p_ring_Ntt_l11_L N) (subs p_ring_Ntt_c) :=
  addLoop (c := theLoop 11 p_ring_Ntt_c) (OkAll.nil) (by kernel_rfl) (fun x => by kernel_rfl) (fun β x kn ke => by kernel_rfl)
noncomputable def p_ring_Ntt_l8_S : Shape where
  h := { tmps := [.any, .sc (.ptr 0 0 false), .sc (.ptr 1 0 false), .sc (.ptr 2 0 false), .sc (.int .i64), .sc (.int .i64), .sc (.int .i64), .any, .any, .any, .any, .any, .any, .any, .any, .any, .any, .any, .any, .any, .any, .any, .any, .any, .any, .any, .any, .any, .any, .any, .any, .any, .any, .any, .any, .any, .any, .any, .any, .any, .any, .any, .any, .any, .any, .any, .any, .any, .any, .any, .any, .any, .any, .any, .any, .any, .any, .any, .any, .any, .any], mem := [.live [.xs (.int .u16) (some 256)] (.own), .live [.xs (.int .u16) (some 256)] (.own), .live [.xs (.int .u16) (some 128)] (.own)] }
  ks := [.int, .int, .int, .xs, .xs, .xs]
  st := fun x => { tmps := [.one .any, .one (.sc (.ptr 0 0 none)), .one (.sc (.ptr 1 0 none)), .one (.sc (.ptr 2 0 none)), .one (.sc (.int .i64 x.1)), .one (.sc (.int .i64 x.2.1)), .one (.sc (.int .i64 x.2.2.1)), .one .any, .one .any, .one .any, .one .any, .one .any, .one .any, .one .any, .one .any, .one .any, .one .any, .one .any, .one .any, .one .any, .one .any, .one .any, .one .any, .one .any, .one .any, .one .any, .one .any, .one .any, .one .any, .one .any, .one .any, .one .any, .one .any, .one .any, .one .any, .one .any, .one .any, .one .any, .one .any, .one .any, .one .any, .one .any, .one .any, .one .any, .one .any, .one .any, .one .any, .one .any, .one .any, .one .any, .one .any, .one .any, .one .any, .one .any, .one .any, .one .any, .one .any, .one .any, .one .any, .one .any, .one .any], mem := [.live { segs := [.xs (.int .u16) 256 x.2.2.2.1], own := .own }, .live { segs := [.xs (.int .u16) 256 x.2.2.2.2.1], own := .own }, .live { segs := [.xs (.int .u16) 128 x.2.2.2.2.2.1], own := .own }] }
noncomputable def p_ring_Ntt_l8_F (N : Nat) (β : Type) (x : (Int × Int × Int × List Int × List Int × List Int × Unit)) (kn : (Int × Int × Int × List Int × List Int × List Int × Unit) → Option β) (ke : ((Int × Int × List Int × List Int × List Int × Unit)) → Option β) : Option β :=
  if (x.2.2.1 < (256:Int)) then
    iter (p_ring_Ntt_l11_F N) N (x.1, x.2.1, x.2.2.1, x.2.2.1, x.2.2.2.1, x.2.2.2.2.1, x.2.2.2.2.2.1, ()) fun y4 => (
    kn ((IntKind.i64.wrap (y4.1 + (1:Int))), y4.2.1, (IntKind.i64.wrap (y4.2.2.1 + (IntKind.i64.wrap ((2:Int) * y4.2.1)))), y4.2.2.2.1, y4.2.2.2.2.1, y4.2.2.2.2.2.1, ()))
  else
    ke (x.1, x.2.1, x.2.2.2.1, x.2.2.2.2.1, x.2.2.2.2.2.1, ())
noncomputable def p_ring_Ntt_l8_go : Go' ((Int × Int × List Int × List Int × List Int × Unit)) := fun y K => K (.exit 2) { tmps := [.one .any, .one (.sc (.ptr 0 0 none)), .one (.sc (.ptr 1 0 none)), .one (.sc (.ptr 2 0 none)), .one (.sc (.int .i64 y.1)), .one (.sc (.int .i64 y.2.1)), .one .any, .one .any, .one .any, .one .any, .one .any, .one .any, .one .any, .one .any, .one .any, .one .any, .one .any, .one .any, .one .any, .one .any, .one .any, .one .any, .one .any, .one .any, .one .any, .one .any, .one .any, .one .any, .one .any, .one .any, .one .any, .one .any, .one .any, .one .any, .one .any, .one .any, .one .any, .one .any, .one .any, .one .any, .one .any, .one .any, .one .any, .one .any, .one .any, .one .any, .one .any, .one .any, .one .any, .one .any, .one .any, .one .any, .one .any, .one .any, .one .any, .one .any, .one .any, .one .any, .one .any, .one .any, .one .any], mem := [.live { segs := [.xs (.int .u16) 256 y.2.2.1], own := .own }, .live { segs := [.xs (.int .u16) 256 y.2.2.2.1], own := .own }, .live { segs := [.xs (.int .u16) 128 y.2.2.2.2.1], own := .own }] }
noncomputable def p_ring_Ntt_l8_L (N : Nat) : LT := upd (p_ring_Ntt_l11_L N) 8 (loopE p_ring_Ntt_l8_S N (p_ring_Ntt_l8_F N) p_ring_Ntt_l8_go)
theorem p_ring_Ntt_l8_ok (N : Nat) : OkAll p_ring_Ntt_E p_ring_Ntt_H N (p_ring_Ntt_l8_L N) (subs p_ring_Ntt_c) :=
  addLoop (c := theLoop 8 p_ring_Ntt_c) (p_ring_Ntt_l11_ok N) (by kernel_rfl) (fun x => by kernel_rfl) (fun β x kn ke => by kernel_rfl)
noncomputable def p_ring_Ntt_l5_S : Shape where
  h := { tmps := [.any, .sc (.ptr 0 0 false), .sc (.ptr 1 0 false), .sc (.ptr 2 0 false), .sc (.int .i64), .sc (.int .i64), .any, .any, .any, .any, .any, .any, .any, .any, .any, .any, .any, .any, .any, .any, .any, .any, .any, .any, .any, .any, .any, .any, .any, .any, .any, .any, .any, .any, .any, .any, .any, .any, .any, .any, .any, .any, .any, .any, .any, .any, .any, .any, .any, .any, .any, .any, .any, .any, .any, .any, .any, .any, .any, .any, .any], mem := [.live [.xs (.int .u16) (some 256)] (.own), .live [.xs (.int .u16) (some 256)] (.own), .live [.xs (.int .u16) (some 128)] (.own)] }
  ks := [.int, .int, .xs, .xs, .xs]
  st := fun x => { tmps := [.one .any, .one (.sc (.ptr 0 0 none)), .one (.sc (.ptr 1 0 none)), .one (.sc (.ptr 2 0 none)), .one (.sc (.int .i64 x.1)), .one (.sc (.int .i64 x.2.1)), .one .any, .one .any, .one .any, .one .any, .one .any, .one .any, .one .any, .one .any, .one .any, .one .any, .one .any, .one .any, .one .any, .one .any, .one .any, .one .any, .one .any, .one .any, .one .any, .one .any, .one .any, .one .any, .one .any, .one .any, .one .any, .one .any, .one .any, .one .any, .one .any, .one .any, .one .any, .one .any, .one .any, .one .any, .one .any, .one .any, .one .any, .one .any, .one .any, .one .any, .one .any, .one .any, .one .any, .one .any, .one .any, .one .any, .one .any, .one .any, .one .any, .one .any, .one .any, .one .any, .one .any, .one .any, .one .any], mem := [.live { segs := [.xs (.int .u16) 256 x.2.2.1], own := .own }, .live { segs := [.xs (.int .u16) 256 x.2.2.2.1], own := .own }, .live { segs := [.xs (.int .u16) 128 x.2.2.2.2.1], own := .own }] }
noncomputable def p_ring_Ntt_l5_F (N : Nat) (β : Type) (x : (Int × Int × List Int × List Int × List Int × Unit)) (kn : (Int × Int × List Int × List Int × List Int × Unit) → Option β) (ke : ((List Int × List Int × Unit)) → Option β) : Option β :=
  if (x.2.1 ≥ (2:Int)) then
    iter (p_ring_Ntt_l8_F N) N (x.1, x.2.1, (0:Int), x.2.2.1, x.2.2.2.1, x.2.2.2.2.1, ()) fun y5 => (
    kn (y5.1, (IntKind.i64.wrap (Int.tdiv y5.2.1 (2:Int))), y5.2.2.1, y5.2.2.2.1, y5.2.2.2.2.1, ()))
  else
    ke (x.2.2.1, x.2.2.2.1, ())
noncomputable def p_ring_Ntt_l5_go : Go' ((List Int × List Int × Unit)) := fun y K => K (.exit 0) { tmps := [.one .any, .one (.sc (.ptr 0 0 none)), .one (.sc (.ptr 1 0 none)), .one .any, .one .any, .one .any, .one .any, .one .any, .one .any, .one .any, .one .any, .one .any, .one .any, .one .any, .one .any, .one .any, .one .any, .one .any, .one .any, .one .any, .one .any, .one .any, .one .any, .one .any, .one .any, .one .any, .one .any, .one .any, .one .any, .one .any, .one .any, .one .any, .one .any, .one .any, .one .any, .one .any, .one .any, .one .any, .one .any, .one .any, .one .any, .one .any, .one .any, .one .any, .one .any, .one .any, .one .any, .one .any, .one .any, .one .any, .one .any, .one .any, .one .any, .one .any, .one .any, .one .any, .one .any, .one .any, .one .any, .one .any, .one .any], mem := [.live { segs := [.xs (.int .u16) 256 y.1], own := .own }, .live { segs := [.xs (.int .u16) 256 y.2.1], own := .own }] }
noncomputable def p_ring_Ntt_l5_L (N : Nat) : LT := upd (p_ring_Ntt_l8_L N) 5 (loopE p_ring_Ntt_l5_S N (p_ring_Ntt_l5_F N) p_ring_Ntt_l5_go)
theorem p_ring_Ntt_l5_ok (N : Nat) : OkAll p_ring_Ntt_E p_ring_Ntt_H N (p_ring_Ntt_l5_L N) (subs p_ring_Ntt_c) :=
  addLoop (c := theLoop 5 p_ring_Ntt_c) (p_ring_Ntt_l8_ok N) (by kernel_rfl) (fun x => by kernel_rfl) (fun β x kn ke => by kernel_rfl)
abbrev p_ring_Ntt_ks : List Kd := [.xs (.int .u16) 256]
abbrev p_ring_Ntt_rs : List Kd := [.xs (.int .u16) 256]
noncomputable def p_ring_Ntt (N : Nat) (x : List Int × Unit) : Option (List Int) :=
  (g_ring_Reduce (x.1, ())).bind fun r1 => (
  (g_ring_powers (())).bind fun r2 => (
  iter (p_ring_Ntt_l5_F N) N ((1:Int), (128:Int), r1, (List.replicate 256 0), r2, ()) fun y6 => (
  some y6.1)))
theorem p_ring_Ntt_eq (N : Nat) (x : Ds [.xs (.int .u16) 256]) : funL p_ring_Ntt_E p_ring_Ntt_H (p_ring_Ntt_l5_L N) N Go.Proofs.Try.f24 p_ring_Ntt_c [.xs (.int .u16) 256] [.xs (.int .u16) 256] x = p_ring_Ntt N x := by kernel_rfl
theorem p_ring_Ntt_Eok (he_ring_Reduce : SigOk Go.Proofs.Try.prog 37 ⟨[.xs (.int .u16) 256], [.xs (.int .u16) 256], g_ring_Reduce⟩) (he_ring_powers : SigOk Go.Proofs.Try.prog 46 ⟨[], [.xs (.int .u16) 128], g_ring_powers⟩) (he_ring_times : SigOk Go.Proofs.Try.prog 47 ⟨[.int .u16, .int .u16], [.int .u16], g_ring_times⟩) : p_ring_Ntt_E.Ok Go.Proofs.Try.prog := AE.of_ok (all_cons ty22_ok (all_cons ty24_ok (all_cons ty48_ok all_nil))) (all_cons ⟨he_ring_Reduce, enters_ring_Reduce⟩ (all_cons ⟨he_ring_powers, enters_ring_powers⟩ (all_cons ⟨he_ring_times, enters_ring_times⟩ all_nil)))
theorem p_ring_Ntt_ok (he_ring_Reduce : SigOk Go.Proofs.Try.prog 37 ⟨[.xs (.int .u16) 256], [.xs (.int .u16) 256], g_ring_Reduce⟩) (he_ring_powers : SigOk Go.Proofs.Try.prog 46 ⟨[], [.xs (.int .u16) 128], g_ring_powers⟩) (he_ring_times : SigOk Go.Proofs.Try.prog 47 ⟨[.int .u16, .int .u16], [.int .u16], g_ring_times⟩) {g : Ds [.xs (.int .u16) 256] → Option (Rs [.xs (.int .u16) 256])} (hg : ∀ x r, g x = some r → ∃ N, p_ring_Ntt N x = some r) : SigOk Go.Proofs.Try.prog 24 ⟨[.xs (.int .u16) 256], [.xs (.int .u16) 256], g⟩ :=
  fun_of (E := p_ring_Ntt_E) (H := p_ring_Ntt_H) (L := fun N => p_ring_Ntt_l5_L N) (c := p_ring_Ntt_c) (ks := p_ring_Ntt_ks) (rs := p_ring_Ntt_rs) (F := p_ring_Ntt) (p_ring_Ntt_Eok he_ring_Reduce he_ring_powers he_ring_times) mix Go.Proofs.Try.func24 (by kernel_rfl) (fun N => p_ring_Ntt_l5_ok N) p_ring_Ntt_eq hg

/-! livery/liverylaw13.live -/
noncomputable def p_law13_live_E : AE := AE.of [(22, ty22), (24, ty24)] [(24, ⟨[.xs (.int .u16) 256], [.xs (.int .u16) 256], g_ring_Ntt⟩), (14, ⟨[.int .i64, .xs (.int .u16) 256], [.xs (.int .u16) 256, .int .i64], g_ring_Compress⟩), (16, ⟨[.int .i64, .xs (.int .u16) 256], [.xs (.int .u16) 256, .int .i64], g_ring_Decompress⟩)]
noncomputable def p_law13_live_H : Hints := [(3000000, [0])]
noncomputable def p_law13_live_c : Code := (Go.Proofs.Try.f18).body.getD .skip
abbrev p_law13_live_ks : List Kd := []
abbrev p_law13_live_rs : List Kd := [.bool]
noncomputable def p_law13_live (N : Nat) (x : Unit) : Option (Bool) :=
  (g_ring_Ntt ((List.set (List.replicate 256 0) 0 (1:Int)), ())).bind fun r1 => (
  (g_ring_Compress ((1:Int), (List.set (List.set (List.replicate 256 0) 0 (833:Int)) 1 (832:Int)), ())).bind fun r2 => (
  (g_ring_Decompress ((1:Int), (List.set (List.replicate 256 0) 0 (1:Int)), ())).bind fun r3 => (
  if ((List.getD r1 0 0) = (1:Int)) then
    if ((List.getD r1 1 0) = (0:Int)) then
      if ((List.getD r1 2 0) = (1:Int)) then
        if ((List.getD r1 254 0) = (1:Int)) then
          if ((List.getD r2.1 0 0) = (1:Int)) then
            if ((List.getD r2.1 1 0) = (0:Int)) then
              if ((List.getD r3.1 0 0) = (1665:Int)) then
                if (r2.2 = (0:Int)) then
                  some (decide (r3.2 = (0:Int)))
                else
                  some false
              else
                some false
            else
              some false
          else
            some false
        else
          some false
      else
        some false
    else
      some false
  else
    some false)))
theorem p_law13_live_eq (N : Nat) (x : Ds []) : funL p_law13_live_E p_law13_live_H (LT.nil) N Go.Proofs.Try.f18 p_law13_live_c [] [.bool] x = p_law13_live N x := by kernel_rfl
theorem p_law13_live_Eok (he_ring_Ntt : SigOk Go.Proofs.Try.prog 24 ⟨[.xs (.int .u16) 256], [.xs (.int .u16) 256], g_ring_Ntt⟩) (he_ring_Compress : SigOk Go.Proofs.Try.prog 14 ⟨[.int .i64, .xs (.int .u16) 256], [.xs (.int .u16) 256, .int .i64], g_ring_Compress⟩) (he_ring_Decompress : SigOk Go.Proofs.Try.prog 16 ⟨[.int .i64, .xs (.int .u16) 256], [.xs (.int .u16) 256, .int .i64], g_ring_Decompress⟩) : p_law13_live_E.Ok Go.Proofs.Try.prog := AE.of_ok (all_cons ty22_ok (all_cons ty24_ok all_nil)) (all_cons ⟨he_ring_Ntt, enters_ring_Ntt⟩ (all_cons ⟨he_ring_Compress, enters_ring_Compress⟩ (all_cons ⟨he_ring_Decompress, enters_ring_Decompress⟩ all_nil)))
theorem p_law13_live_ok (he_ring_Ntt : SigOk Go.Proofs.Try.prog 24 ⟨[.xs (.int .u16) 256], [.xs (.int .u16) 256], g_ring_Ntt⟩) (he_ring_Compress : SigOk Go.Proofs.Try.prog 14 ⟨[.int .i64, .xs (.int .u16) 256], [.xs (.int .u16) 256, .int .i64], g_ring_Compress⟩) (he_ring_Decompress : SigOk Go.Proofs.Try.prog 16 ⟨[.int .i64, .xs (.int .u16) 256], [.xs (.int .u16) 256, .int .i64], g_ring_Decompress⟩) {g : Ds [] → Option (Rs [.bool])} (hg : ∀ x r, g x = some r → ∃ N, p_law13_live N x = some r) : SigOk Go.Proofs.Try.prog 18 ⟨[], [.bool], g⟩ :=
  fun_of (E := p_law13_live_E) (H := p_law13_live_H) (L := fun N => LT.nil) (c := p_law13_live_c) (ks := p_law13_live_ks) (rs := p_law13_live_rs) (F := p_law13_live) (p_law13_live_Eok he_ring_Ntt he_ring_Compress he_ring_Decompress) mix Go.Proofs.Try.func18 (by kernel_rfl) (fun N => OkAll.nil) p_law13_live_eq hg

/-! livery/liverylaw13.RingCompresses -/
noncomputable def p_law13_RingCompresses_E : AE := AE.of [(22, ty22), (24, ty24)] [(14, ⟨[.int .i64, .xs (.int .u16) 256], [.xs (.int .u16) 256, .int .i64], g_ring_Compress⟩), (15, ⟨[.int .i64, .xs (.int .u16) 256], [.xs (.int .u16) 256, .int .i64], g_ref13_Compress⟩), (16, ⟨[.int .i64, .xs (.int .u16) 256], [.xs (.int .u16) 256, .int .i64], g_ring_Decompress⟩), (17, ⟨[.int .i64, .xs (.int .u16) 256], [.xs (.int .u16) 256, .int .i64], g_ref13_Decompress⟩), (18, ⟨[], [.bool], g_law13_live⟩)]
noncomputable def p_law13_RingCompresses_H : Hints := [(3000000, [4])]
noncomputable def p_law13_RingCompresses_c : Code := (Go.Proofs.Try.f3).body.getD .skip
abbrev p_law13_RingCompresses_ks : List Kd := [.int .i64, .xs (.int .u16) 256]
abbrev p_law13_RingCompresses_rs : List Kd := [.bool]
noncomputable def p_law13_RingCompresses (N : Nat) (x : Int × List Int × Unit) : Option (Bool) :=
  (g_ring_Compress (x.1, x.2.1, ())).bind fun r1 => (
  (g_ref13_Compress (x.1, x.2.1, ())).bind fun r2 => (
  (g_ring_Decompress (x.1, x.2.1, ())).bind fun r3 => (
  (g_ref13_Decompress (x.1, x.2.1, ())).bind fun r4 => (
  (g_law13_live (())).bind fun r5 => (
  if (r5 = true) then
    if (r1.1 = r2.1) then
      if (r1.2 = r2.2) then
        if (r3.1 = r4.1) then
          some (decide (r3.2 = r4.2))
        else
          some false
      else
        some false
    else
      some false
  else
    some false)))))
theorem p_law13_RingCompresses_eq (N : Nat) (x : Ds [.int .i64, .xs (.int .u16) 256]) : funL p_law13_RingCompresses_E p_law13_RingCompresses_H (LT.nil) N Go.Proofs.Try.f3 p_law13_RingCompresses_c [.int .i64, .xs (.int .u16) 256] [.bool] x = p_law13_RingCompresses N x := by kernel_rfl
theorem p_law13_RingCompresses_Eok (he_ring_Compress : SigOk Go.Proofs.Try.prog 14 ⟨[.int .i64, .xs (.int .u16) 256], [.xs (.int .u16) 256, .int .i64], g_ring_Compress⟩) (he_ref13_Compress : SigOk Go.Proofs.Try.prog 15 ⟨[.int .i64, .xs (.int .u16) 256], [.xs (.int .u16) 256, .int .i64], g_ref13_Compress⟩) (he_ring_Decompress : SigOk Go.Proofs.Try.prog 16 ⟨[.int .i64, .xs (.int .u16) 256], [.xs (.int .u16) 256, .int .i64], g_ring_Decompress⟩) (he_ref13_Decompress : SigOk Go.Proofs.Try.prog 17 ⟨[.int .i64, .xs (.int .u16) 256], [.xs (.int .u16) 256, .int .i64], g_ref13_Decompress⟩) (he_law13_live : SigOk Go.Proofs.Try.prog 18 ⟨[], [.bool], g_law13_live⟩) : p_law13_RingCompresses_E.Ok Go.Proofs.Try.prog := AE.of_ok (all_cons ty22_ok (all_cons ty24_ok all_nil)) (all_cons ⟨he_ring_Compress, enters_ring_Compress⟩ (all_cons ⟨he_ref13_Compress, enters_ref13_Compress⟩ (all_cons ⟨he_ring_Decompress, enters_ring_Decompress⟩ (all_cons ⟨he_ref13_Decompress, enters_ref13_Decompress⟩ (all_cons ⟨he_law13_live, enters_law13_live⟩ all_nil)))))
theorem p_law13_RingCompresses_ok (he_ring_Compress : SigOk Go.Proofs.Try.prog 14 ⟨[.int .i64, .xs (.int .u16) 256], [.xs (.int .u16) 256, .int .i64], g_ring_Compress⟩) (he_ref13_Compress : SigOk Go.Proofs.Try.prog 15 ⟨[.int .i64, .xs (.int .u16) 256], [.xs (.int .u16) 256, .int .i64], g_ref13_Compress⟩) (he_ring_Decompress : SigOk Go.Proofs.Try.prog 16 ⟨[.int .i64, .xs (.int .u16) 256], [.xs (.int .u16) 256, .int .i64], g_ring_Decompress⟩) (he_ref13_Decompress : SigOk Go.Proofs.Try.prog 17 ⟨[.int .i64, .xs (.int .u16) 256], [.xs (.int .u16) 256, .int .i64], g_ref13_Decompress⟩) (he_law13_live : SigOk Go.Proofs.Try.prog 18 ⟨[], [.bool], g_law13_live⟩) {g : Ds [.int .i64, .xs (.int .u16) 256] → Option (Rs [.bool])} (hg : ∀ x r, g x = some r → ∃ N, p_law13_RingCompresses N x = some r) : SigOk Go.Proofs.Try.prog 3 ⟨[.int .i64, .xs (.int .u16) 256], [.bool], g⟩ :=
  fun_of (E := p_law13_RingCompresses_E) (H := p_law13_RingCompresses_H) (L := fun N => LT.nil) (c := p_law13_RingCompresses_c) (ks := p_law13_RingCompresses_ks) (rs := p_law13_RingCompresses_rs) (F := p_law13_RingCompresses) (p_law13_RingCompresses_Eok he_ring_Compress he_ref13_Compress he_ring_Decompress he_ref13_Decompress he_law13_live) mix Go.Proofs.Try.func3 (by kernel_rfl) (fun N => OkAll.nil) p_law13_RingCompresses_eq hg
end Go.Ax.TryP
/-! ### The printed functions compute what is specified -/
namespace Go.Ax.TryP

theorem pow_le {n : Nat} (h : n ≤ 12) : (2 : Int) ^ n ≤ 4096 := (by decide : ∀ n, n ≤ 12 → (2 : Int) ^ n ≤ 4096) n h
theorem wf_one {a : List Int} : wfAll [.xs (.int .u16) 256] (a, ()) ↔ u16s 256 a := by simp [wfAll, wf_u16s]
theorem fRed_u16 (a : List Int) : u16s 256 (fRed a) := u16s.range fun i _ => by omega
theorem fRed_lt (a : List Int) (i : Nat) : 0 ≤ (fRed a).getD i 0 ∧ (fRed a).getD i 0 < 3329 := by
  by_cases hi : i < 256
  · rw [fRed, poly, map_range_getD hi]; omega
  · rw [List.getD_eq_getElem?_getD, List.getElem?_eq_none (by simp [fRed, poly]; omega)]; simp

theorem q_ring_Reduce : ∀ x r, g_ring_Reduce x = some r → ∃ N, p_ring_Reduce N x = some r := by
  refine Spec_of (ks := p_ring_Reduce_ks) (rs := p_ring_Reduce_rs) fun x hw _ => ⟨257, ?_⟩
  obtain ⟨(a : List Int), u⟩ := x
  have ha := wf_one.1 hw
  have hl := ha.1
  unfold p_ring_Reduce
  refine (iter_run (s := fun i => ((i : Int), part (fun i => a.getD i 0 % 3329) i a, List.replicate 256 0, ())) (y := (fRed a, List.replicate 256 0, ())) 256 ?_ ?_ 257 (by omega)).trans ?_
  · intro i hi kn
    have h0 := ha.at i
    unfold p_ring_Reduce_l2_F
    simp (disch := omega) only [if_pos, wrap_i64, Int.toNat_natCast, part_getD (Nat.le_refl i)]
    rw [part_set' (by omega) (tmod_pos h0.1), Int.natCast_add]
    rfl
  · intro kn
    unfold p_ring_Reduce_l2_F
    simp (disch := omega) only [if_neg]
    rw [part_all hl]
    rfl
  · rfl

theorem q_ref13_Reduce : ∀ x r, g_ref13_Reduce x = some r → ∃ N, p_ref13_Reduce N x = some r := by
  refine Spec_of (ks := p_ref13_Reduce_ks) (rs := p_ref13_Reduce_rs) fun x hw _ => ⟨257, ?_⟩
  obtain ⟨(a : List Int), u⟩ := x
  have ha := wf_one.1 hw
  have hl := ha.1
  unfold p_ref13_Reduce
  refine (iter_run (s := fun i => ((i : Int), part (fun i => a.getD i 0 % 3329) i a, List.replicate 256 0, ())) (y := (fRed a, List.replicate 256 0, ())) 256 ?_ ?_ 257 (by omega)).trans ?_
  · intro i hi kn
    have h0 := ha.at i
    unfold p_ref13_Reduce_l2_F
    simp (disch := omega) only [if_pos, wrap_i64, Int.toNat_natCast, part_getD (Nat.le_refl i)]
    rw [part_set' (by omega) (tmod_pos h0.1), Int.natCast_add]
    rfl
  · intro kn
    unfold p_ref13_Reduce_l2_F
    simp (disch := omega) only [if_neg]
    rw [part_all hl]
    rfl
  · rfl

theorem q_ref13_width : ∀ x r, g_ref13_width x = some r → ∃ N, p_ref13_width N x = some r := by
  refine Spec_of (ks := p_ref13_width_ks) (rs := p_ref13_width_rs) fun x hw hq => ⟨100, ?_⟩
  obtain ⟨(d : Int), u⟩ := x
  obtain ⟨n, rfl⟩ := Int.eq_ofNat_of_zero_le hq.1
  have hn : n ≤ 12 := by have : (n : Int) ≤ 12 := hq.2; omega
  unfold p_ref13_width
  refine (iter_run (s := fun i => ((2 : Int) ^ i, (n : Int), (i : Int), ())) (y := ((2 : Int) ^ n, ())) n ?_ ?_ 100 (by omega)).trans ?_
  · intro i hi kn
    have hp : (2 : Int) ^ i ≤ 4096 := pow_le (show i ≤ 12 by omega)
    have hp0 : (0 : Int) < 2 ^ i := Int.pow_pos (by omega)
    unfold p_ref13_width_l3_F
    simp (disch := omega) only [if_pos, wrap_i64, Int.pow_succ, Int.natCast_add, Int.cast_ofNat_Int]
  · intro kn
    unfold p_ref13_width_l3_F
    simp (disch := omega) only [if_neg]
  · rfl

theorem q_ref13_Near : ∀ x r, g_ref13_Near x = some r → ∃ N, p_ref13_Near N x = some r := by
  refine Spec_of (ks := p_ref13_Near_ks) (rs := p_ref13_Near_rs) fun x hw hq => ⟨0, ?_⟩
  obtain ⟨(a : Int), (b : Int), (c : Int), u⟩ := x
  obtain ⟨h1, h2, h3, h4, h5, h6⟩ : 0 ≤ a ∧ a ≤ 65535 ∧ 0 < b ∧ b ≤ 65536 ∧ 0 < c ∧ c ≤ 65536 := hq
  have hm0 : 0 ≤ 2 * a * b := Int.mul_nonneg (by omega) (by omega)
  have hm : 2 * a * b ≤ 131070 * 65536 := Int.mul_le_mul (by omega) h4 (by omega) (by omega)
  have hd : (2 * a * b + c) / (2 * c) ≤ 2 * a * b + c := Int.ediv_le_self _ (by omega)
  have hd0 : 0 ≤ (2 * a * b + c) / (2 * c) := Int.ediv_nonneg (by omega) (by omega)
  unfold p_ref13_Near
  simp (disch := omega) only [if_neg, wrap_i64, tdiv_pos]

theorem times_bound {a b : Int} (ha : 0 ≤ a ∧ a ≤ 65535) (hb : 0 ≤ b ∧ b ≤ 65535) : 0 ≤ a * b ∧ a * b ≤ 4294967295 := by
  have h1 : a * b ≤ 65535 * 65535 := Int.mul_le_mul ha.2 hb.2 hb.1 (by omega)
  exact ⟨Int.mul_nonneg ha.1 hb.1, by omega⟩
theorem q_ring_times : ∀ x r, g_ring_times x = some r → ∃ N, p_ring_times N x = some r := by
  refine Spec_of (ks := p_ring_times_ks) (rs := p_ring_times_rs) fun x hw hq => ⟨0, ?_⟩
  obtain ⟨(a : Int), (b : Int), u⟩ := x
  simp only [wfAll, Kd.wf, okInt_u16] at hw
  obtain ⟨ha, hb, _⟩ := hw
  have hm := times_bound ha hb
  unfold p_ring_times
  simp (disch := omega) only [wrap_u32, tmod_pos, wrap_u16]

theorem two_pow {d : Int} (h0 : 0 ≤ d) (h1 : d ≤ 12) : (0 : Int) < 2 ^ d.toNat ∧ (2 : Int) ^ d.toNat ≤ 4096 := by
  obtain ⟨n, rfl⟩ := Int.eq_ofNat_of_zero_le h0
  exact ⟨Int.pow_pos (by omega), pow_le (show n ≤ 12 by omega)⟩
theorem ishl_u32 {x d : Int} (hx : 0 ≤ x) (h0 : 0 ≤ d) (h1 : d ≤ 31) (hx2 : x * 2 ^ d.toNat ≤ 4294967295) : ishl .u32 x d = x * 2 ^ d.toNat := by
  unfold ishl
  rw [show min d.toNat IntKind.u32.bits = d.toNat by simp [IntKind.bits]; omega]
  exact wrap_u32 (Int.mul_nonneg hx (Int.le_of_lt (Int.pow_pos (by omega)))) hx2
theorem fComp_bound {d : Int} (h0 : 1 ≤ d) (h1 : d ≤ 11) (z : Int) : 0 ≤ fComp d z ∧ fComp d z < 2 ^ d.toNat := by
  obtain ⟨p0, p1⟩ := two_pow (show 0 ≤ d by omega) (by omega)
  exact ⟨Int.emod_nonneg _ (by omega), Int.emod_lt_of_pos _ p0⟩
theorem pow_toNat_succ {d : Int} (h0 : 0 ≤ d) : (2 : Int) ^ (d + 1).toNat = 2 ^ d.toNat * 2 := by
  rw [show (d + 1).toNat = d.toNat + 1 by omega, Int.pow_succ]

theorem wf_two {d : Int} {a : List Int} (h : wfAll [.int .i64, .xs (.int .u16) 256] (d, a, ())) : (-9223372036854775808 ≤ d ∧ d ≤ 9223372036854775807) ∧ u16s 256 a := by
  simp only [wfAll, Kd.wf, okInt_i64, okInt_u16] at h
  exact ⟨h.1, h.2.1⟩

theorem q_ring_Compress : ∀ x r, g_ring_Compress x = some r → ∃ N, p_ring_Compress N x = some r := by
  refine Spec_of (ks := p_ring_Compress_ks) (rs := p_ring_Compress_rs) fun x hw _ => ⟨257, ?_⟩
  obtain ⟨(d : Int), (a : List Int), u⟩ := x
  obtain ⟨hd, ha⟩ := wf_two hw
  unfold p_ring_Compress fCompress
  by_cases h1 : d < 1
  · simp only [h1, if_true, true_or]; rfl
  by_cases h2 : 11 < d
  · simp only [h1, h2, if_false, or_true, if_true]; rfl
  obtain ⟨p0, p1⟩ := two_pow (show 0 ≤ d by omega) (by omega)
  simp only [h1, h2, if_false, or_self]
  rw [show g_ring_Reduce (a, ()) = some (fRed a) from Spec_at hw.2 trivial]
  simp only [Option.bind_some]
  refine (iter_run (s := fun i => (d, fRed a, (i : Int), part (fun i => fComp d (a.getD i 0)) i (fRed a), List.replicate 256 0, ())) (y := (poly fun i => fComp d (a.getD i 0), List.replicate 256 0, ())) 256 ?_ ?_ 257 (by omega)).trans ?_
  · intro i hi kn
    have h0 := ha.at i
    have hr : (fRed a).getD i 0 = a.getD i 0 % 3329 := by rw [fRed, poly, map_range_getD hi]
    have hz : 0 ≤ a.getD i 0 % 3329 ∧ a.getD i 0 % 3329 ≤ 3328 := by omega
    have hl : (fRed a).length = 256 := (fRed_u16 a).1
    generalize hzz : a.getD i 0 % 3329 = z at *
    have hm0 : 0 ≤ z * 2 ^ d.toNat := Int.mul_nonneg hz.1 (by omega)
    have hm : z * 2 ^ d.toNat ≤ 3328 * 4096 := Int.mul_le_mul hz.2 p1 (by omega) (by omega)
    have hsh : ishl .u32 z (d + 1) = z * 2 ^ d.toNat * 2 := by
      rw [ishl_u32 hz.1 (by omega) (by omega) (by rw [pow_toNat_succ (by omega), ← Int.mul_assoc]; omega), pow_toNat_succ (by omega), Int.mul_assoc]
    have h1sh : ishl .u32 1 d = 2 ^ d.toNat := by rw [ishl_u32 (by omega) (by omega) (by omega) (by omega), Int.one_mul]
    unfold p_ring_Compress_l5_F
    simp (disch := omega) only [if_pos, if_neg, wrap_i64, wrap_u32, Int.toNat_natCast, hr, hsh, h1sh, tdiv_pos, tmod_pos]
    have hb := fComp_bound (d := d) (by omega) (by omega) (a.getD i 0)
    have hc : (z * 2 ^ d.toNat * 2 + 3329) / 6658 % 2 ^ d.toNat = fComp d (a.getD i 0) := by
      unfold fComp
      rw [hzz, Int.mul_assoc 2 z, Int.mul_comm 2 (z * _)]
      rfl
    rw [hc]
    simp (disch := omega) only [wrap_u16]
    rw [part_set' (h := fun i => fComp d (a.getD i 0)) (by omega) rfl]
    rfl
  · intro kn
    unfold p_ring_Compress_l5_F
    simp (disch := omega) only [if_neg]
    rw [part_all (fRed_u16 a).1]
    rfl
  · rfl
end Go.Ax.TryP
/-! ### Compress, Decompress and the law about them -/
namespace Go.Ax.TryP

theorem at19 {a b c : Int} (h1 : 0 ≤ a ∧ a ≤ 65535) (h2 : 0 < b ∧ b ≤ 65536) (h3 : 0 < c ∧ c ≤ 65536) : g_ref13_Near (a, b, c, ()) = some ((2 * a * b + c) / (2 * c)) :=
  Spec_at (ks := p_ref13_Near_ks) (rs := p_ref13_Near_rs) (by simp [wfAll, Kd.wf, okInt_i64]; omega) ⟨h1.1, h1.2, h2.1, h2.2, h3.1, h3.2⟩
theorem at45 {d : Int} (h : 0 ≤ d ∧ d ≤ 12) : g_ref13_width (d, ()) = some (2 ^ d.toNat) :=
  Spec_at (ks := p_ref13_width_ks) (rs := p_ref13_width_rs) (by simp [wfAll, Kd.wf, okInt_i64]; omega) h
theorem at37 {a : List Int} (h : u16s 256 a) : g_ring_Reduce (a, ()) = some (fRed a) := Spec_at (ks := p_ring_Reduce_ks) (rs := p_ring_Reduce_rs) (wf_one.2 h) trivial
theorem at47 {a b : Int} (ha : 0 ≤ a ∧ a ≤ 65535) (hb : 0 ≤ b ∧ b ≤ 65535) : g_ring_times (a, b, ()) = some (a * b % 3329) :=
  Spec_at (ks := p_ring_times_ks) (rs := p_ring_times_rs) (by simp only [wfAll, Kd.wf, okInt_u16]; exact ⟨ha, hb, trivial⟩) trivial

theorem q_ref13_Compress : ∀ x r, g_ref13_Compress x = some r → ∃ N, p_ref13_Compress N x = some r := by
  refine Spec_of (ks := p_ref13_Compress_ks) (rs := p_ref13_Compress_rs) fun x hw _ => ⟨257, ?_⟩
  obtain ⟨(d : Int), (a : List Int), u⟩ := x
  obtain ⟨hd, ha⟩ := wf_two hw
  have hal := ha.1
  unfold p_ref13_Compress fCompress
  by_cases h1 : d < 1
  · simp only [h1, if_true, true_or]; rfl
  by_cases h2 : 11 < d
  · simp only [h1, h2, if_false, or_true, if_true]; rfl
  obtain ⟨p0, p1⟩ := two_pow (show 0 ≤ d by omega) (by omega)
  simp only [h1, h2, if_false, or_self]
  refine (iter_run (s := fun i => (d, (i : Int), part (fun i => fComp d (a.getD i 0)) i a, List.replicate 256 0, ())) (y := (poly fun i => fComp d (a.getD i 0), List.replicate 256 0, ())) 256 ?_ ?_ 257 (by omega)).trans ?_
  · intro i hi kn
    have h0 := ha.at i
    have hz : 0 ≤ a.getD i 0 % 3329 ∧ a.getD i 0 % 3329 ≤ 3328 := by omega
    have hb := fComp_bound (d := d) (by omega) (by omega) (a.getD i 0)
    have hn := at19 (a := a.getD i 0 % 3329) (b := 2 ^ d.toNat) (c := 3329) (by omega) (by omega) (by omega)
    have hq0 : 0 ≤ (2 * (a.getD i 0 % 3329) * 2 ^ d.toNat + 3329) / (2 * 3329) :=
      Int.ediv_nonneg (by have := Int.mul_nonneg (a := 2 * (a.getD i 0 % 3329)) (b := 2 ^ d.toNat) (by omega) (by omega); omega) (by omega)
    unfold p_ref13_Compress_l4_F
    simp (disch := omega) only [if_pos, if_neg, wrap_i64, Int.toNat_natCast, part_getD (Nat.le_refl i), tmod_pos, at45, Option.bind_some, hn]
    change kn (d, (i : Int) + 1, (part _ i a).set i (IntKind.u16.wrap (fComp d (a.getD i 0))), _) = _
    simp (disch := omega) only [wrap_u16]
    rw [part_set' (h := fun i => fComp d (a.getD i 0)) (by omega) rfl]
    rfl
  · intro kn
    unfold p_ref13_Compress_l4_F
    simp (disch := omega) only [if_neg]
    rw [part_all hal]
    rfl
  · rfl

theorem fDecomp_bound {d : Int} (h0 : 1 ≤ d) (h1 : d ≤ 11) (z : Int) : 0 ≤ fDecomp d z ∧ fDecomp d z ≤ 3329 := by
  obtain ⟨p0, p1⟩ := two_pow (show 0 ≤ d by omega) (by omega)
  unfold fDecomp
  have m0 := Int.emod_nonneg z (show (2 : Int) ^ d.toNat ≠ 0 by omega)
  have m1 := Int.emod_lt_of_pos z p0
  generalize z % 2 ^ d.toNat = y at *
  generalize (2 : Int) ^ d.toNat = w at *
  refine ⟨Int.ediv_nonneg (by omega) (by omega), ?_⟩
  refine Int.ediv_le_of_le_mul (by omega) ?_
  have : y * 3329 ≤ w * 3329 := by omega
  omega
theorem q_ring_Decompress : ∀ x r, g_ring_Decompress x = some r → ∃ N, p_ring_Decompress N x = some r := by
  refine Spec_of (ks := p_ring_Decompress_ks) (rs := p_ring_Decompress_rs) fun x hw _ => ⟨257, ?_⟩
  obtain ⟨(d : Int), (a : List Int), u⟩ := x
  obtain ⟨hd, ha⟩ := wf_two hw
  have hal := ha.1
  unfold p_ring_Decompress fDecompress
  by_cases h1 : d < 1
  · simp only [h1, if_true, true_or]; rfl
  by_cases h2 : 11 < d
  · simp only [h1, h2, if_false, or_true, if_true]; rfl
  obtain ⟨p0, p1⟩ := two_pow (show 0 ≤ d by omega) (by omega)
  simp only [h1, h2, if_false, or_self]
  refine (iter_run (s := fun i => (d, a, (i : Int), part (fun i => fDecomp d (a.getD i 0)) i a, List.replicate 256 0, ())) (y := (poly fun i => fDecomp d (a.getD i 0), List.replicate 256 0, ())) 256 ?_ ?_ 257 (by omega)).trans ?_
  · intro i hi kn
    have h0 := ha.at i
    have hb := fDecomp_bound (d := d) (by omega) (by omega) (a.getD i 0)
    have h1sh : ishl .u32 1 d = 2 ^ d.toNat := by rw [ishl_u32 (by omega) (by omega) (by omega) (by omega), Int.one_mul]
    have m0 := Int.emod_nonneg (a.getD i 0) (show (2 : Int) ^ d.toNat ≠ 0 by omega)
    have m1 := Int.emod_lt_of_pos (a.getD i 0) p0
    have hsr : ∀ x : Int, ishr .u32 x (d + 1) = x / (2 * 2 ^ d.toNat) := by
      intro x
      unfold ishr
      rw [show min (d + 1).toNat IntKind.u32.bits = (d + 1).toNat by simp [IntKind.bits]; omega, pow_toNat_succ (by omega), Int.mul_comm 2, Int.fdiv_eq_ediv_of_nonneg _ (by omega)]
    have hc : (6658 * (a.getD i 0 % 2 ^ d.toNat) + 2 ^ d.toNat) / (2 * 2 ^ d.toNat) = fDecomp d (a.getD i 0) := by
      unfold fDecomp
      rw [show 2 * (a.getD i 0 % 2 ^ d.toNat) * 3329 = 6658 * (a.getD i 0 % 2 ^ d.toNat) by omega]
    unfold p_ring_Decompress_l4_F
    simp (disch := omega) only [if_pos, if_neg, wrap_i64, wrap_u32, Int.toNat_natCast, h1sh, tmod_pos, hsr, hc]
    simp (disch := omega) only [wrap_u16]
    rw [part_set' (h := fun i => fDecomp d (a.getD i 0)) (by omega) rfl]
    rfl
  · intro kn
    unfold p_ring_Decompress_l4_F
    simp (disch := omega) only [if_neg]
    rw [part_all hal]
    rfl
  · rfl

theorem q_ref13_Decompress : ∀ x r, g_ref13_Decompress x = some r → ∃ N, p_ref13_Decompress N x = some r := by
  refine Spec_of (ks := p_ref13_Decompress_ks) (rs := p_ref13_Decompress_rs) fun x hw _ => ⟨257, ?_⟩
  obtain ⟨(d : Int), (a : List Int), u⟩ := x
  obtain ⟨hd, ha⟩ := wf_two hw
  have hal := ha.1
  unfold p_ref13_Decompress fDecompress
  by_cases h1 : d < 1
  · simp only [h1, if_true, true_or]; rfl
  by_cases h2 : 11 < d
  · simp only [h1, h2, if_false, or_true, if_true]; rfl
  obtain ⟨p0, p1⟩ := two_pow (show 0 ≤ d by omega) (by omega)
  simp only [h1, h2, if_false, or_self]
  refine (iter_run (s := fun i => (d, (i : Int), part (fun i => fDecomp d (a.getD i 0)) i a, List.replicate 256 0, ())) (y := (poly fun i => fDecomp d (a.getD i 0), List.replicate 256 0, ())) 256 ?_ ?_ 257 (by omega)).trans ?_
  · intro i hi kn
    have h0 := ha.at i
    have hb := fDecomp_bound (d := d) (by omega) (by omega) (a.getD i 0)
    have m0 := Int.emod_nonneg (a.getD i 0) (show (2 : Int) ^ d.toNat ≠ 0 by omega)
    have m1 := Int.emod_lt_of_pos (a.getD i 0) p0
    have hn := at19 (a := a.getD i 0 % 2 ^ d.toNat) (b := 3329) (c := 2 ^ d.toNat) (by omega) (by omega) (by omega)
    unfold p_ref13_Decompress_l4_F
    simp (disch := omega) only [if_pos, if_neg, wrap_i64, Int.toNat_natCast, part_getD (Nat.le_refl i), tmod_pos, at45, Option.bind_some, hn]
    change kn (d, (i : Int) + 1, (part _ i a).set i (IntKind.u16.wrap (fDecomp d (a.getD i 0))), _) = _
    simp (disch := omega) only [wrap_u16]
    rw [part_set' (h := fun i => fDecomp d (a.getD i 0)) (by omega) rfl]
    rfl
  · intro kn
    unfold p_ref13_Decompress_l4_F
    simp (disch := omega) only [if_neg]
    rw [part_all hal]
    rfl
  · rfl

/-! #### The powers of 17 -/
theorem rev8_table : ∀ n, n < 256 → bt p_bits_Reverse8_s0 n = (rev8 n : Int) ∧ rev8 n < 256 := by decide +kernel
theorem q_bits_Reverse8 : ∀ x r, g_bits_Reverse8 x = some r → ∃ N, p_bits_Reverse8 N x = some r := by
  refine Spec_of (ks := p_bits_Reverse8_ks) (rs := p_bits_Reverse8_rs) fun x hw _ => ⟨0, ?_⟩
  obtain ⟨(n : Int), u⟩ := x
  simp only [wfAll, Kd.wf, okInt_u8] at hw
  have hs : p_bits_Reverse8_s0.size = 256 := by decide +kernel
  have ht := (rev8_table n.toNat (by omega)).1
  unfold p_bits_Reverse8
  rw [hs]
  simp (disch := omega) only [if_pos]
  rw [ht]
end Go.Ax.TryP
/-! ### The powers of 17, the transform, the law about compressing -/
namespace Go.Ax.TryP

def h17 (j : Nat) : Int := 17 ^ j % 3329
theorem h17_bound (j : Nat) : 0 ≤ h17 j ∧ h17 j < 3329 := by unfold h17; omega
theorem zeta_bound (j : Nat) : 0 ≤ zeta j ∧ zeta j < 3329 := by unfold zeta; omega
theorem h17_succ (j : Nat) : h17 j * 17 % 3329 = h17 (j + 1) := by
  unfold h17
  rw [Int.pow_succ]
  generalize (17 : Int) ^ j = m
  omega
theorem at58 {n : Int} (h : 0 ≤ n ∧ n ≤ 255) : g_bits_Reverse8 (n, ()) = some (rev8 n.toNat : Int) :=
  Spec_at (ks := p_bits_Reverse8_ks) (rs := p_bits_Reverse8_rs) (by simp only [wfAll, Kd.wf, okInt_u8]; exact ⟨h, trivial⟩) trivial

theorem q_ring_powers : ∀ x r, g_ring_powers x = some r → ∃ N, p_ring_powers N x = some r := by
  refine Spec_of (ks := p_ring_powers_ks) (rs := p_ring_powers_rs) fun x hw _ => ⟨200, ?_⟩
  unfold p_ring_powers
  refine (iter_run (s := fun i => (((i + 1 : Nat) : Int), List.replicate 128 0, part h17 (i + 1) (List.replicate 128 0), List.replicate 128 0, ())) (y := (List.replicate 128 0, (List.range 128).map h17, List.replicate 128 0, ())) 127 ?_ ?_ 200 (by omega)).trans ?_
  · intro i hi kn
    have hb := h17_bound i
    have ht := at47 (a := h17 i) (b := 17) (by omega) (by omega)
    have hg : (part h17 (i + 1) (List.replicate 128 0)).getD i 0 = h17 i := part_getD_lt (by omega)
    have e1 : ((i + 1 : Nat) : Int) - 1 = (i : Int) := by omega
    unfold p_ring_powers_l4_F
    simp (disch := omega) only [if_pos, wrap_i64, e1, Int.toNat_natCast, hg, ht, Option.bind_some, h17_succ]
    rw [part_set' (h := h17) (by simp; omega) rfl]
    rfl
  · intro kn
    unfold p_ring_powers_l4_F
    simp (disch := omega) only [if_neg]
    rw [part_all (by simp)]
  refine (iter_run (s := fun i => ((i : Int), List.replicate 128 0, (List.range 128).map h17, part zeta i (List.replicate 128 0), ())) (y := (List.replicate 128 0, (List.range 128).map zeta, ())) 128 ?_ ?_ 200 (by omega)).trans ?_
  · intro i hi kn
    have ht := at58 (n := (i : Int)) (by omega)
    obtain ⟨_, hr⟩ := rev8_table i (by omega)
    have hsr : ishr .u8 (rev8 i : Int) 1 = ((rev7 i : Nat) : Int) := by
      unfold ishr rev7
      rw [show min (1 : Int).toNat IntKind.u8.bits = 1 by decide, Int.fdiv_eq_ediv_of_nonneg _ (by decide)]
      omega
    have h7 : rev7 i < 128 := by unfold rev7; omega
    have hg : ((List.range 128).map h17).getD (rev7 i) 0 = h17 (rev7 i) := map_range_getD h7
    unfold p_ring_powers_l8_F
    simp (disch := omega) only [if_pos, wrap_i64, wrap_u8, Int.toNat_natCast, ht, Option.bind_some, hsr, hg]
    rw [part_set' (h := zeta) (i := i) (a := List.replicate 128 0) (z := h17 (rev7 i)) (by rw [List.length_replicate]; omega) rfl]
    rfl
  · intro kn
    unfold p_ring_powers_l8_F
    simp (disch := omega) only [if_neg]
    rw [part_all (by simp)]
  · rfl
theorem at46 : g_ring_powers () = some ((List.range 128).map zeta) := Spec_at (ks := p_ring_powers_ks) (rs := p_ring_powers_rs) trivial trivial

/-! #### The transform -/
theorem poly_getD {h : Nat → Int} {i : Nat} (hi : i < 256) : (poly h).getD i 0 = h i := map_range_getD hi
theorem poly_congr {h h' : Nat → Int} (e : ∀ i, i < 256 → h i = h' i) : poly h = poly h' := List.map_congr_left fun i hi => e i (List.mem_range.1 hi)
theorem poly_set {h h' : Nat → Int} {j : Nat} {v : Int} (hj : h' j = v) (e : ∀ i, i < 256 → i ≠ j → h' i = h i) : (poly h).set j v = poly h' := by
  apply List.ext_getElem?
  intro i
  rw [List.getElem?_set]
  by_cases hij : j = i
  · subst hij
    simp only [if_true]
    by_cases hl : j < 256
    · simp [poly, hl, hj]
    · simp [poly, hl]
  · rw [if_neg hij]
    by_cases hl : i < 256
    · simp [poly, hl, e i hl (Ne.symm hij)]
    · simp [poly, hl]
theorem poly_self {a : List Int} (h : a.length = 256) : poly (fun i => a.getD i 0) = a := by
  apply List.ext_getElem?
  intro i
  by_cases hl : i < 256
  · simp [poly, hl, List.getD_eq_getElem?_getD, List.getElem?_eq_getElem (show i < a.length by omega)]
  · simp [poly, hl, List.getElem?_eq_none (show a.length ≤ i by omega)]

def red (a : List Int) : Prop := a.length = 256 ∧ ∀ i, 0 ≤ a.getD i 0 ∧ a.getD i 0 < 3329
theorem red_fRed (a : List Int) : red (fRed a) := ⟨(fRed_u16 a).1, fRed_lt a⟩
theorem red_poly {h : Nat → Int} (hh : ∀ i, i < 256 → 0 ≤ h i ∧ h i < 3329) : red (poly h) := by
  refine ⟨by simp [poly], fun i => ?_⟩
  by_cases hi : i < 256
  · rw [poly_getD hi]; exact hh i hi
  · rw [List.getD_eq_getElem?_getD, List.getElem?_eq_none (by simp [poly]; omega)]; simp
theorem red.u16 {a : List Int} (h : red a) : u16s 256 a := by
  refine ⟨h.1, fun z hz => ?_⟩
  obtain ⟨i, hi, rfl⟩ := List.getElem_of_mem hz
  have := h.2 i
  rw [List.getD_eq_getElem?_getD, List.getElem?_eq_getElem hi] at this
  simp only [Option.getD_some] at this
  omega

def nval (s : Nat) (a : List Int) (j : Nat) : Int :=
  if j % (2 * s) < s then (a.getD j 0 + zeta (128 / s + j / (2 * s)) * a.getD (j + s) 0 % 3329) % 3329
  else (a.getD (j - s) 0 + 3329 - zeta (128 / s + j / (2 * s)) * a.getD j 0 % 3329) % 3329
theorem nLayer_eq (s : Nat) (a : List Int) : nLayer s a = poly (nval s a) := rfl
theorem nval_bound (s : Nat) (a : List Int) (j : Nat) : 0 ≤ nval s a j ∧ nval s a j < 3329 := by unfold nval; split <;> omega
theorem red_nLayer (s : Nat) (a : List Int) : red (nLayer s a) := by rw [nLayer_eq]; exact red_poly fun i _ => nval_bound s a i

def nDone (s at' r j : Nat) : Prop := j < at' ∨ (at' ≤ j ∧ j < at' + r) ∨ (at' + s ≤ j ∧ j < at' + s + r)
instance (s at' r j : Nat) : Decidable (nDone s at' r j) := by unfold nDone; infer_instance
def nMix (s : Nat) (a : List Int) (at' r j : Nat) : Int := if nDone s at' r j then nval s a j else a.getD j 0

theorem nval_lo {s m b r : Nat} (hm : s * m = 128) (hs : 0 < s) (hr : r < s) (a : List Int) : nval s a (2 * s * b + r) = (a.getD (2 * s * b + r) 0 + zeta (m + b) * a.getD (2 * s * b + r + s) 0 % 3329) % 3329 := by
  have e1 : (2 * s * b + r) % (2 * s) = r := by rw [Nat.mul_add_mod]; exact Nat.mod_eq_of_lt (by omega)
  have e2 : (2 * s * b + r) / (2 * s) = b := by rw [Nat.mul_add_div (by omega), Nat.div_eq_of_lt (by omega), Nat.add_zero]
  have e3 : 128 / s = m := by rw [← hm, Nat.mul_div_cancel_left _ hs]
  unfold nval
  rw [e1, e2, e3, if_pos hr]
theorem nval_hi {s m b r : Nat} (hm : s * m = 128) (hs : 0 < s) (hr : r < s) (a : List Int) : nval s a (2 * s * b + r + s) = (a.getD (2 * s * b + r) 0 + 3329 - zeta (m + b) * a.getD (2 * s * b + r + s) 0 % 3329) % 3329 := by
  have e1 : (2 * s * b + r + s) % (2 * s) = r + s := by rw [Nat.add_assoc, Nat.mul_add_mod]; exact Nat.mod_eq_of_lt (by omega)
  have e2 : (2 * s * b + r + s) / (2 * s) = b := by rw [Nat.add_assoc, Nat.mul_add_div (by omega), Nat.div_eq_of_lt (by omega), Nat.add_zero]
  have e3 : 128 / s = m := by rw [← hm, Nat.mul_div_cancel_left _ hs]
  unfold nval
  rw [e1, e2, e3, if_neg (by omega), Nat.add_sub_cancel]

theorem ntt_block {β : Type} {N s m b : Nat} (hm : s * m = 128) (hs : 0 < s) (hb : b < m) (hm64 : m ≤ 64) (hN : 300 ≤ N) {a : List Int} (ha : red a) (res : List Int) (K : Int × Int × Int × List Int × List Int × List Int × Unit → Option β) :
    iter (p_ring_Ntt_l11_F N) N (((m + b : Nat) : Int), (s : Int), ((2 * s * b : Nat) : Int), ((2 * s * b : Nat) : Int), poly (nMix s a (2 * s * b) 0), res, (List.range 128).map zeta, ()) K
      = K (((m + b : Nat) : Int), (s : Int), ((2 * s * b : Nat) : Int), poly (nMix s a (2 * s * (b + 1)) 0), res, (List.range 128).map zeta, ()) := by
  have hs128 : s ≤ 128 := by rw [← hm]; exact Nat.le_mul_of_pos_right _ (by omega)
  have hat : 2 * s * b + 2 * s ≤ 256 := by
    have : s * (b + 1) ≤ s * m := Nat.mul_le_mul_left _ (by omega)
    rw [hm, Nat.mul_add] at this
    rw [Nat.mul_assoc]
    omega
  have hnext : 2 * s * (b + 1) = 2 * s * b + 2 * s := by rw [Nat.mul_add, Nat.mul_one]
  rw [hnext]
  have hk : m + b < 128 := by omega
  have hz := zeta_bound (m + b)
  have hzg : ((List.range 128).map zeta).getD (m + b) 0 = zeta (m + b) := map_range_getD (by omega)
  have hlo := fun r (hr : r < s) => nval_lo (b := b) hm hs hr a
  have hhi := fun r (hr : r < s) => nval_hi (b := b) hm hs hr a
  generalize 2 * s * b = c at *
  generalize m + b = k at *
  refine (iter_run (s := fun r => ((k : Int), (s : Int), (c : Int), ((c + r : Nat) : Int), poly (nMix s a c r), res, (List.range 128).map zeta, ())) (y := ((k : Int), (s : Int), (c : Int), poly (nMix s a (c + 2 * s) 0), res, (List.range 128).map zeta, ())) s ?_ ?_ N (by omega)).trans ?_
  · intro r hr kn
    have h1 := ha.2 (c + r)
    have h2 := ha.2 (c + r + s)
    have g1 : (poly (nMix s a c r)).getD (c + r) 0 = a.getD (c + r) 0 := by rw [poly_getD (by omega), nMix, if_neg (by unfold nDone; omega)]
    have g2 : (poly (nMix s a c r)).getD (c + r + s) 0 = a.getD (c + r + s) 0 := by rw [poly_getD (by omega), nMix, if_neg (by unfold nDone; omega)]
    have ht := at47 (a := zeta k) (b := a.getD (c + r + s) 0) (by omega) (by omega)
    have hl := hlo r hr
    have hh := hhi r hr
    have ec : ((c + r : Nat) : Int) + (s : Int) = ((c + r + s : Nat) : Int) := by omega
    unfold p_ring_Ntt_l11_F
    simp (disch := omega) only [if_pos, wrap_i64, ec, Int.toNat_natCast, hzg, g1, g2, ht, Option.bind_some, wrap_u16, tmod_pos]
    rw [← hl, ← hh]
    rw [poly_set (h' := fun j => if j = c + r then nval s a j else nMix s a c r j) (by simp) (fun i _ hi => by simp [hi])]
    rw [poly_set (h' := nMix s a c (r + 1)) ?_ ?_]
    · rfl
    · unfold nMix; rw [if_pos (by unfold nDone; omega)]
    · intro i hi hne
      by_cases h : i = c + r
      · rw [if_pos h, h]; unfold nMix; rw [if_pos (by unfold nDone; omega)]
      · rw [if_neg h]; unfold nMix
        by_cases hd : nDone s c r i
        · rw [if_pos hd, if_pos (by unfold nDone at *; omega)]
        · rw [if_neg hd, if_neg (by unfold nDone at *; omega)]
  · intro kn
    unfold p_ring_Ntt_l11_F
    simp (disch := omega) only [if_neg, wrap_i64]
    rw [poly_congr (h' := nMix s a (c + 2 * s) 0)]
    intro i hi
    unfold nMix
    by_cases hd : nDone s c s i
    · rw [if_pos hd, if_pos (by unfold nDone at *; omega)]
    · rw [if_neg hd, if_neg (by unfold nDone at *; omega)]
  · rfl

theorem ntt_layer {β : Type} {N s m : Nat} (hm : s * m = 128) (hs : 0 < s) (hm64 : m ≤ 64) (hN : 300 ≤ N) {a : List Int} (ha : red a) (res : List Int) (K : Int × Int × List Int × List Int × List Int × Unit → Option β) :
    iter (p_ring_Ntt_l8_F N) N ((m : Int), (s : Int), 0, a, res, (List.range 128).map zeta, ()) K = K (((2 * m : Nat) : Int), (s : Int), nLayer s a, res, (List.range 128).map zeta, ()) := by
  have hs128 : s ≤ 128 := by rw [← hm]; exact Nat.le_mul_of_pos_right _ (by
    rcases Nat.eq_zero_or_pos m with h | h
    · subst h; simp at hm
    · exact h)
  have hall : 2 * s * m = 256 := by rw [Nat.mul_assoc, hm]
  have hat : ∀ b, b ≤ m → 2 * s * b ≤ 256 := fun b hb => by
    have := Nat.mul_le_mul_left (2 * s) hb
    omega
  have h0 : poly (nMix s a (2 * s * 0) 0) = a := by
    refine (poly_congr fun i hi => ?_).trans (poly_self ha.1)
    unfold nMix
    rw [if_neg (by unfold nDone; omega)]
  refine Eq.trans ?_ (iter_run (F := p_ring_Ntt_l8_F N) (s := fun b => (((m + b : Nat) : Int), (s : Int), ((2 * s * b : Nat) : Int), poly (nMix s a (2 * s * b) 0), res, (List.range 128).map zeta, ())) (y := (((2 * m : Nat) : Int), (s : Int), nLayer s a, res, (List.range 128).map zeta, ())) m ?_ ?_ N (by omega))
  · rw [h0]; rfl
  · intro b hb kn
    have h1 := hat (b + 1) (by omega)
    have hnext : 2 * s * (b + 1) = 2 * s * b + 2 * s := by rw [Nat.mul_add, Nat.mul_one]
    have hblock := ntt_block (b := b) hm hs hb hm64 hN ha res (β := β)
    unfold p_ring_Ntt_l8_F
    dsimp only
    rw [if_pos (by omega)]
    refine (hblock _).trans ?_
    rw [hnext] at h1 ⊢
    simp (disch := omega) only [wrap_i64]
    congr 1
  · intro kn
    unfold p_ring_Ntt_l8_F
    dsimp only
    rw [if_neg (by omega)]
    have : poly (nMix s a (2 * s * m) 0) = nLayer s a := by
      rw [nLayer_eq, hall]
      refine poly_congr fun i hi => ?_
      unfold nMix
      rw [if_pos (by unfold nDone; omega)]
    simp only [this]
    rw [show m + m = 2 * m by omega]

def nStage (a : List Int) : Nat → List Int
  | 0 => fRed a
  | i + 1 => nLayer (128 / 2 ^ i) (nStage a i)
theorem fNtt_eq (a : List Int) : fNtt a = nStage a 7 := by simp only [fNtt, nStage, List.foldl_cons, List.foldl_nil, Nat.reducePow, Nat.reduceDiv]
theorem red_nStage (a : List Int) : ∀ i, red (nStage a i)
  | 0 => red_fRed a
  | _ + 1 => red_nLayer _ _
theorem stage_facts : ∀ i, i < 7 → (128 / 2 ^ i) * 2 ^ i = 128 ∧ 2 ≤ 128 / 2 ^ i ∧ 128 / 2 ^ i ≤ 128 ∧ 128 / 2 ^ i / 2 = 128 / 2 ^ (i + 1) ∧ 2 ^ i ≤ 64 := by decide
theorem q_ring_Ntt : ∀ x r, g_ring_Ntt x = some r → ∃ N, p_ring_Ntt N x = some r := by
  refine Spec_of (ks := p_ring_Ntt_ks) (rs := p_ring_Ntt_rs) fun x hw _ => ⟨300, ?_⟩
  obtain ⟨(a : List Int), u⟩ := x
  have ha := wf_one.1 hw
  unfold p_ring_Ntt
  refine (congrArg (fun o => Option.bind o _) (at37 ha)).trans ?_
  refine (congrArg (fun o => Option.bind o _) at46).trans ?_
  simp only [Option.bind_some]
  refine (iter_run (F := p_ring_Ntt_l5_F 300) (s := fun i => (((2 ^ i : Nat) : Int), ((128 / 2 ^ i : Nat) : Int), nStage a i, List.replicate 256 0, (List.range 128).map zeta, ())) (y := (fNtt a, List.replicate 256 0, ())) 7 ?_ ?_ 300 (by omega)).trans ?_
  · intro i hi kn
    obtain ⟨f1, f2, f3, f4, f5⟩ := stage_facts i hi
    unfold p_ring_Ntt_l5_F
    dsimp only
    rw [if_pos (by omega)]
    refine (ntt_layer f1 (by omega) f5 (Nat.le_refl _) (red_nStage a i) _ _).trans ?_
    simp (disch := omega) only [tdiv_pos, wrap_i64]
    have e1 : ((128 / 2 ^ i : Nat) : Int) / 2 = ((128 / 2 ^ (i + 1) : Nat) : Int) := by rw [← f4]; omega
    rw [e1, Nat.pow_succ, Nat.mul_comm 2]
    rfl
  · intro kn
    unfold p_ring_Ntt_l5_F
    dsimp only
    rw [if_neg (by decide), fNtt_eq]
  · rfl
end Go.Ax.TryP
/-! ### The examples, and the law about compressing -/
namespace Go.Ax.TryP

def ex1 : List Int := List.set (List.replicate 256 0) 0 (1:Int)
def ex2 : List Int := List.set (List.set (List.replicate 256 0) 0 (833:Int)) 1 (832:Int)
theorem ex1_u16 : u16s 256 ex1 := by
  refine ⟨by rw [ex1, List.length_set, List.length_replicate], fun z hz => ?_⟩
  have : z ∈ List.replicate 256 (0:Int) ∨ z = 1 := List.mem_or_eq_of_mem_set hz
  rcases this with h | h
  · rw [List.eq_of_mem_replicate h]; omega
  · omega
theorem ex2_u16 : u16s 256 ex2 := by
  refine ⟨by rw [ex2, List.length_set, List.length_set, List.length_replicate], fun z hz => ?_⟩
  rcases List.mem_or_eq_of_mem_set hz with h | h
  · rcases List.mem_or_eq_of_mem_set h with h | h
    · rw [List.eq_of_mem_replicate h]; omega
    · omega
  · omega
theorem at24 {a : List Int} (h : u16s 256 a) : g_ring_Ntt (a, ()) = some (fNtt a) := Spec_at (ks := p_ring_Ntt_ks) (rs := p_ring_Ntt_rs) (wf_one.2 h) trivial
theorem wf_two' {d : Int} {a : List Int} (hd : -9223372036854775808 ≤ d ∧ d ≤ 9223372036854775807) (ha : u16s 256 a) : wfAll [.int .i64, .xs (.int .u16) 256] (d, a, ()) := by
  simp only [wfAll, Kd.wf, okInt_i64, okInt_u16]
  exact ⟨hd, ha, trivial⟩
theorem at14 {d : Int} {a : List Int} (hd : -9223372036854775808 ≤ d ∧ d ≤ 9223372036854775807) (ha : u16s 256 a) : g_ring_Compress (d, a, ()) = some (fCompress d a) := Spec_at (ks := p_ring_Compress_ks) (rs := p_ring_Compress_rs) (wf_two' hd ha) trivial
theorem at15 {d : Int} {a : List Int} (hd : -9223372036854775808 ≤ d ∧ d ≤ 9223372036854775807) (ha : u16s 256 a) : g_ref13_Compress (d, a, ()) = some (fCompress d a) := Spec_at (ks := p_ref13_Compress_ks) (rs := p_ref13_Compress_rs) (wf_two' hd ha) trivial
theorem at16 {d : Int} {a : List Int} (hd : -9223372036854775808 ≤ d ∧ d ≤ 9223372036854775807) (ha : u16s 256 a) : g_ring_Decompress (d, a, ()) = some (fDecompress d a) := Spec_at (ks := p_ring_Decompress_ks) (rs := p_ring_Decompress_rs) (wf_two' hd ha) trivial
theorem at17 {d : Int} {a : List Int} (hd : -9223372036854775808 ≤ d ∧ d ≤ 9223372036854775807) (ha : u16s 256 a) : g_ref13_Decompress (d, a, ()) = some (fDecompress d a) := Spec_at (ks := p_ref13_Decompress_ks) (rs := p_ref13_Decompress_rs) (wf_two' hd ha) trivial

theorem live_ntt : (fNtt ex1).getD 0 0 = 1 ∧ (fNtt ex1).getD 1 0 = 0 ∧ (fNtt ex1).getD 2 0 = 1 ∧ (fNtt ex1).getD 254 0 = 1 := by decide +kernel
theorem live_comp : (fCompress 1 ex2).1.getD 0 0 = 1 ∧ (fCompress 1 ex2).1.getD 1 0 = 0 ∧ (fCompress 1 ex2).2 = 0 := by decide +kernel
theorem live_decomp : (fDecompress 1 ex1).1.getD 0 0 = 1665 ∧ (fDecompress 1 ex1).2 = 0 := by decide +kernel
theorem q_law13_live : ∀ x r, g_law13_live x = some r → ∃ N, p_law13_live N x = some r := by
  refine Spec_of (ks := p_law13_live_ks) (rs := p_law13_live_rs) fun x hw _ => ⟨0, ?_⟩
  obtain ⟨a1, a2, a3, a4⟩ := live_ntt
  obtain ⟨b1, b2, b3⟩ := live_comp
  obtain ⟨c1, c2⟩ := live_decomp
  unfold p_law13_live
  refine (congrArg (fun o => Option.bind o _) (at24 ex1_u16)).trans ?_
  refine (congrArg (fun o => Option.bind o _) (at14 (d := 1) (by omega) ex2_u16)).trans ?_
  refine (congrArg (fun o => Option.bind o _) (at16 (d := 1) (by omega) ex1_u16)).trans ?_
  simp only [Option.bind_some, a1, a2, a3, a4, b1, b2, b3, c1, c2, if_true, decide_true]
theorem at18 : g_law13_live () = some true := Spec_at (ks := p_law13_live_ks) (rs := p_law13_live_rs) trivial trivial

/-- THE LAW: whatever the input. -/
noncomputable def g_law13_RingCompresses : Int × List Int × Unit → Option Bool := Spec (ks := [.int .i64, .xs (.int .u16) 256]) (rs := [.bool]) (fun _ => True) fun _ => true
theorem q_law13_RingCompresses : ∀ x r, g_law13_RingCompresses x = some r → ∃ N, p_law13_RingCompresses N x = some r := by
  refine Spec_of (ks := p_law13_RingCompresses_ks) (rs := p_law13_RingCompresses_rs) fun x hw _ => ⟨0, ?_⟩
  obtain ⟨(d : Int), (a : List Int), u⟩ := x
  obtain ⟨hd, ha⟩ := wf_two hw
  unfold p_law13_RingCompresses
  simp only [at14 hd ha, at15 hd ha, at16 hd ha, at17 hd ha, at18, Option.bind_some, if_true, decide_true]

/-! #### The functions keep their signatures -/
theorem s_ring_Reduce : SigOk Go.Proofs.Try.prog 37 ⟨p_ring_Reduce_ks, p_ring_Reduce_rs, g_ring_Reduce⟩ := p_ring_Reduce_ok q_ring_Reduce
theorem s_ring_times : SigOk Go.Proofs.Try.prog 47 ⟨p_ring_times_ks, p_ring_times_rs, g_ring_times⟩ := p_ring_times_ok q_ring_times
theorem s_bits_Reverse8 : SigOk Go.Proofs.Try.prog 58 ⟨p_bits_Reverse8_ks, p_bits_Reverse8_rs, g_bits_Reverse8⟩ := p_bits_Reverse8_ok q_bits_Reverse8
theorem s_ring_powers : SigOk Go.Proofs.Try.prog 46 ⟨p_ring_powers_ks, p_ring_powers_rs, g_ring_powers⟩ := p_ring_powers_ok s_ring_times s_bits_Reverse8 q_ring_powers
theorem s_ref13_width : SigOk Go.Proofs.Try.prog 45 ⟨p_ref13_width_ks, p_ref13_width_rs, g_ref13_width⟩ := p_ref13_width_ok q_ref13_width
theorem s_ref13_Near : SigOk Go.Proofs.Try.prog 19 ⟨p_ref13_Near_ks, p_ref13_Near_rs, g_ref13_Near⟩ := p_ref13_Near_ok q_ref13_Near
theorem s_ring_Compress : SigOk Go.Proofs.Try.prog 14 ⟨p_ring_Compress_ks, p_ring_Compress_rs, g_ring_Compress⟩ := p_ring_Compress_ok s_ring_Reduce q_ring_Compress
theorem s_ref13_Compress : SigOk Go.Proofs.Try.prog 15 ⟨p_ref13_Compress_ks, p_ref13_Compress_rs, g_ref13_Compress⟩ := p_ref13_Compress_ok s_ref13_width s_ref13_Near q_ref13_Compress
theorem s_ring_Decompress : SigOk Go.Proofs.Try.prog 16 ⟨p_ring_Decompress_ks, p_ring_Decompress_rs, g_ring_Decompress⟩ := p_ring_Decompress_ok q_ring_Decompress
theorem s_ref13_Decompress : SigOk Go.Proofs.Try.prog 17 ⟨p_ref13_Decompress_ks, p_ref13_Decompress_rs, g_ref13_Decompress⟩ := p_ref13_Decompress_ok s_ref13_width s_ref13_Near q_ref13_Decompress
theorem s_ring_Ntt : SigOk Go.Proofs.Try.prog 24 ⟨p_ring_Ntt_ks, p_ring_Ntt_rs, g_ring_Ntt⟩ := p_ring_Ntt_ok s_ring_Reduce s_ring_powers s_ring_times q_ring_Ntt
theorem s_law13_live : SigOk Go.Proofs.Try.prog 18 ⟨p_law13_live_ks, p_law13_live_rs, g_law13_live⟩ := p_law13_live_ok s_ring_Ntt s_ring_Compress s_ring_Decompress q_law13_live
theorem s_law13_RingCompresses : SigOk Go.Proofs.Try.prog 3 ⟨p_law13_RingCompresses_ks, p_law13_RingCompresses_rs, g_law13_RingCompresses⟩ := p_law13_RingCompresses_ok s_ring_Compress s_ref13_Compress s_ring_Decompress s_ref13_Decompress s_law13_live q_law13_RingCompresses
end Go.Ax.TryP
