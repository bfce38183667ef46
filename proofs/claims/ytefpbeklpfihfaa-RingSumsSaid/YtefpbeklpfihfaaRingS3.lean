/- A part of the proof: RingS3. -/
import Derived.Test.YtefpbeklpfihfaaRingQ6
/-! ### The transform's inverse, sums, products -/
namespace Go.Ax.TryP

def ival (s : Nat) (a : List Int) (j : Nat) : Int :=
  if j % (2 * s) < s then (a.getD j 0 + a.getD (j + s) 0) % 3329
  else zeta (2 * (128 / s) - 1 - j / (2 * s)) * ((a.getD j 0 + 3329 - a.getD (j - s) 0) % 3329) % 3329
def iLayer (s : Nat) (a : List Int) : List Int := poly (ival s a)
def iStage (a : List Int) : Nat → List Int
  | 0 => fRed a
  | i + 1 => iLayer (2 * 2 ^ i) (iStage a i)
def fInv (a : List Int) : List Int := poly fun j => (iStage a 7).getD j 0 * 3303 % 3329
noncomputable def g26 : List Int × Unit → Option (List Int) := Spec (ks := [.xs (.int .u16) 256]) (rs := [.xs (.int .u16) 256]) (fun _ => True) fun x => fInv x.1
def fAdd (a b : List Int) : List Int := poly fun j => (a.getD j 0 + b.getD j 0) % 3329
def fSub (a b : List Int) : List Int := poly fun j => (a.getD j 0 - b.getD j 0) % 3329
def fMul (a b : List Int) : List Int := fInv (fMulN (fNtt a) (fNtt b))
noncomputable def g29 : List Int × List Int × Unit → Option (List Int) := Spec (ks := [.xs (.int .u16) 256, .xs (.int .u16) 256]) (rs := [.xs (.int .u16) 256]) (fun _ => True) fun x => fAdd x.1 x.2.1
noncomputable def g39 : List Int × List Int × Unit → Option (List Int) := Spec (ks := [.xs (.int .u16) 256, .xs (.int .u16) 256]) (rs := [.xs (.int .u16) 256]) (fun _ => True) fun x => fAdd x.1 x.2.1
noncomputable def g40 : List Int × List Int × Unit → Option (List Int) := Spec (ks := [.xs (.int .u16) 256, .xs (.int .u16) 256]) (rs := [.xs (.int .u16) 256]) (fun _ => True) fun x => fSub x.1 x.2.1
noncomputable def g41 : List Int × List Int × Unit → Option (List Int) := Spec (ks := [.xs (.int .u16) 256, .xs (.int .u16) 256]) (rs := [.xs (.int .u16) 256]) (fun _ => True) fun x => fSub x.1 x.2.1
noncomputable def g28 : List Int × List Int × Unit → Option (List Int) := Spec (ks := [.xs (.int .u16) 256, .xs (.int .u16) 256]) (rs := [.xs (.int .u16) 256]) (fun _ => True) fun x => fMul x.1 x.2.1
noncomputable def g8 : List Int × List Int × Unit → Option Bool := Spec (ks := [.xs (.int .u16) 256, .xs (.int .u16) 256]) (rs := [.bool]) (fun _ => True) fun _ => true
noncomputable def g11 : List Int × List Int × List Int × Unit → Option Bool := Spec (ks := [.xs (.int .u16) 256, .xs (.int .u16) 256, .xs (.int .u16) 256]) (rs := [.bool]) (fun _ => True) fun _ => true
end Go.Ax.TryP
