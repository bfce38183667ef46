/- A part of the proof: RingS4. -/
import Derived.Test.YtefpbeklpfihfaaRingQ12
namespace Go.Ax.TryP
noncomputable def g42 : List Int × List Int × Unit → Option (List Int) := Spec (ks := [.xs (.int .u16) 256, .xs (.int .u16) 256]) (rs := [.xs (.int .u16) 256]) (fun _ => True) fun x => fMul x.1 x.2.1
noncomputable def g10 : List Int × List Int × Unit → Option Bool := Spec (ks := [.xs (.int .u16) 256, .xs (.int .u16) 256]) (rs := [.bool]) (fun _ => True) fun _ => true
end Go.Ax.TryP
