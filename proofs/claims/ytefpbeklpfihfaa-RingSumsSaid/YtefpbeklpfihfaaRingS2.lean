/- A part of the proof: RingS2. -/
import Derived.Test.YtefpbeklpfihfaaRingQ4
/-! ### More of what the functions of the ring compute -/
namespace Go.Ax.TryP

def root (i : Nat) : Int := 17 ^ (2 * rev7 i + 1) % 3329
noncomputable def g59 : Int × Unit → Option Int := Spec (ks := [.int .i64]) (rs := [.int .i64]) (fun x => 0 ≤ x.1 ∧ x.1 ≤ 127) fun x => (rev7 x.1.toNat : Int)
noncomputable def g51 : Int × Int × Unit → Option Int := Spec (ks := [.int .i64, .int .i64]) (rs := [.int .i64]) (fun x => (0 ≤ x.1 ∧ x.1 ≤ 3328) ∧ 0 ≤ x.2.1 ∧ x.2.1 ≤ 1000) fun x => x.1 ^ x.2.1.toNat % 3329
noncomputable def g48 : Int × Unit → Option Int := Spec (ks := [.int .i64]) (rs := [.int .i64]) (fun x => 0 ≤ x.1 ∧ x.1 ≤ 127) fun x => root x.1.toNat
/-- The product of two pairs. -/
def mval (a b : List Int) (j : Nat) : Int :=
  if j % 2 = 0 then ((a.getD j 0 % 3329) * (b.getD j 0 % 3329) + (a.getD (j + 1) 0 % 3329) * (b.getD (j + 1) 0 % 3329) % 3329 * root (j / 2)) % 3329
  else ((a.getD (j - 1) 0 % 3329) * (b.getD j 0 % 3329) + (a.getD j 0 % 3329) * (b.getD (j - 1) 0 % 3329)) % 3329
def fMulN (a b : List Int) : List Int := poly (mval a b)
noncomputable def g20 : List Int × List Int × Unit → Option (List Int) := Spec (ks := [.xs (.int .u16) 256, .xs (.int .u16) 256]) (rs := [.xs (.int .u16) 256]) (fun _ => True) fun x => fMulN x.1 x.2.1
noncomputable def g21 : List Int × List Int × Unit → Option (List Int) := Spec (ks := [.xs (.int .u16) 256, .xs (.int .u16) 256]) (rs := [.xs (.int .u16) 256]) (fun _ => True) fun x => fMulN x.1 x.2.1
noncomputable def g5 : List Int × List Int × Unit → Option Bool := Spec (ks := [.xs (.int .u16) 256, .xs (.int .u16) 256]) (rs := [.bool]) (fun _ => True) fun _ => true
noncomputable def g4 : Int × List Int × Unit → Option Bool := Spec (ks := [.int .i64, .xs (.int .u16) 256]) (rs := [.bool]) (fun _ => True) fun _ => true
end Go.Ax.TryP
