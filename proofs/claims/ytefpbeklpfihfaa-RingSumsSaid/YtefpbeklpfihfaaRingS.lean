/- A part of the proof: RingS. -/
import Derived.Test.YtefpbeklpfihfaaRingT
/-! ### What the functions of the ring compute -/
namespace Go.Ax.TryP

def poly (h : Nat → Int) : List Int := (List.range 256).map h
def zeros : List Int := List.replicate 256 0
abbrev KP : Kd := .xs (.int .u16) 256
abbrev KI : Kd := .int .i64
def fRed (a : List Int) : List Int := poly fun i => a.getD i 0 % 3329
noncomputable def g37 : List Int × Unit → Option (List Int) := Spec (ks := [.xs (.int .u16) 256]) (rs := [.xs (.int .u16) 256]) (fun _ => True) fun x => fRed x.1
noncomputable def g38 : List Int × Unit → Option (List Int) := Spec (ks := [.xs (.int .u16) 256]) (rs := [.xs (.int .u16) 256]) (fun _ => True) fun x => fRed x.1
noncomputable def g45 : Int × Unit → Option (Int) := Spec (ks := [.int .i64]) (rs := [.int .i64]) (fun x => 0 ≤ x.1 ∧ x.1 ≤ 12) fun x => 2 ^ x.1.toNat
noncomputable def g19 : Int × Int × Int × Unit → Option (Int) := Spec (ks := [.int .i64, .int .i64, .int .i64]) (rs := [.int .i64]) (fun x => 0 ≤ x.1 ∧ x.1 ≤ 65535 ∧ 0 < x.2.1 ∧ x.2.1 ≤ 65536 ∧ 0 < x.2.2.1 ∧ x.2.2.1 ≤ 65536) fun x => (2 * x.1 * x.2.1 + x.2.2.1) / (2 * x.2.2.1)
noncomputable def g47 : Int × Int × Unit → Option (Int) := Spec (ks := [.int .u16, .int .u16]) (rs := [.int .u16]) (fun _ => True) fun x => x.1 * x.2.1 % 3329

/-- One number, made shorter. -/
def fComp (d z : Int) : Int := (2 * (z % 3329) * 2 ^ d.toNat + 3329) / (2 * 3329) % 2 ^ d.toNat
def fDecomp (d z : Int) : Int := (2 * (z % 2 ^ d.toNat) * 3329 + 2 ^ d.toNat) / (2 * 2 ^ d.toNat)
def fCompress (d : Int) (a : List Int) : List Int × Int := if d < 1 ∨ 11 < d then (zeros, 1) else (poly fun i => fComp d (a.getD i 0), 0)
def fDecompress (d : Int) (a : List Int) : List Int × Int := if d < 1 ∨ 11 < d then (zeros, 1) else (poly fun i => fDecomp d (a.getD i 0), 0)
noncomputable def g14 : Int × List Int × Unit → Option (List Int × Int) := Spec (ks := [.int .i64, .xs (.int .u16) 256]) (rs := [.xs (.int .u16) 256, .int .i64]) (fun _ => True) fun x => fCompress x.1 x.2.1
noncomputable def g15 : Int × List Int × Unit → Option (List Int × Int) := Spec (ks := [.int .i64, .xs (.int .u16) 256]) (rs := [.xs (.int .u16) 256, .int .i64]) (fun _ => True) fun x => fCompress x.1 x.2.1
noncomputable def g16 : Int × List Int × Unit → Option (List Int × Int) := Spec (ks := [.int .i64, .xs (.int .u16) 256]) (rs := [.xs (.int .u16) 256, .int .i64]) (fun _ => True) fun x => fDecompress x.1 x.2.1
noncomputable def g17 : Int × List Int × Unit → Option (List Int × Int) := Spec (ks := [.int .i64, .xs (.int .u16) 256]) (rs := [.xs (.int .u16) 256, .int .i64]) (fun _ => True) fun x => fDecompress x.1 x.2.1

/-- The bits of a number, the other way round. -/
def rev8 (n : Nat) : Nat := (List.range 8).foldl (fun s i => 2 * s + n / 2 ^ i % 2) 0
def rev7 (n : Nat) : Nat := rev8 n / 2
def zeta (k : Nat) : Int := 17 ^ rev7 k % 3329
noncomputable def g58 : Int × Unit → Option (Int) := Spec (ks := [.int .u8]) (rs := [.int .u8]) (fun _ => True) fun x => (rev8 x.1.toNat : Int)
noncomputable def g46 : Unit → Option (List Int) := Spec (ks := []) (rs := [.xs (.int .u16) 128]) (fun _ => True) fun _ => (List.range 128).map zeta

/-- A layer of the transform: pairs of numbers so far apart. -/
def nLayer (size : Nat) (a : List Int) : List Int := poly fun j =>
  if j % (2 * size) < size then (a.getD j 0 + zeta (128 / size + j / (2 * size)) * a.getD (j + size) 0 % 3329) % 3329
  else (a.getD (j - size) 0 + 3329 - zeta (128 / size + j / (2 * size)) * a.getD j 0 % 3329) % 3329
def fNtt (a : List Int) : List Int := [128, 64, 32, 16, 8, 4, 2].foldl (fun a s => nLayer s a) (fRed a)
noncomputable def g24 : List Int × Unit → Option (List Int) := Spec (ks := [.xs (.int .u16) 256]) (rs := [.xs (.int .u16) 256]) (fun _ => True) fun x => fNtt x.1
noncomputable def g18 : Unit → Option (Bool) := Spec (ks := []) (rs := [.bool]) (fun _ => True) fun _ => true
end Go.Ax.TryP
