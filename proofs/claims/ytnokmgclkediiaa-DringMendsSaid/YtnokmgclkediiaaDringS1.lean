/- A part of the proof: DringS1. -/
import Derived.Test.YtnokmgclkediiaaAx25
import Derived.Test.YtnokmgclkediiaaDringT
/-! ### What the functions of the ring modulo 8380417 compute -/
namespace Go.Ax.TryP

def dpoly (h : Nat → Int) : List Int := (List.range 256).map h
def dzeros : List Int := List.replicate 256 0
def fDRed (a : List Int) : List Int := dpoly fun i => a.getD i 0 % 8380417
def fNear (x m : Int) : Int := if x % m > m / 2 then x % m - m else x % m
def fPl (z : Int) : Int := fNear (z % 8380417) 8192
def fPh (z : Int) : Int := (z % 8380417 - fPl z) / 8192
def fDl0 (z : Int) : Int := fNear (z % 8380417) 523776
def fDl (z : Int) : Int := if z % 8380417 - fDl0 z = 8380416 then fDl0 z - 1 else fDl0 z
def fDh (z : Int) : Int := if z % 8380417 - fDl0 z = 8380416 then 0 else (z % 8380417 - fDl0 z) / 523776
def fP2R (a : List Int) : List Int × List Int := (dpoly fun i => fPh (a.getD i 0), dpoly fun i => fPl (a.getD i 0))
def fDec (a : List Int) : List Int × List Int := (dpoly fun i => fDh (a.getD i 0), dpoly fun i => fDl (a.getD i 0))

noncomputable def g_dring_below : Int × Unit → Option Int := Spec (ks := [.int .i64]) (rs := [.int .i32]) (fun _ => True) fun x => x.1 % 8380417
noncomputable def g_dring_Reduce_1 : Int × Unit → Option Int := Spec (ks := [.int .i32]) (rs := [.int .i32]) (fun _ => True) fun x => x.1 % 8380417
noncomputable def g_dring_each__dring_Reduce_1 : List Int × Unit × Unit → Option (List Int) := Spec (ks := [.xs (.int .i32) 256, .fnc 58]) (rs := [.xs (.int .i32) 256]) (fun _ => True) fun x => fDRed x.1
noncomputable def g_dring_Reduce : List Int × Unit → Option (List Int) := Spec (ks := [.xs (.int .i32) 256]) (rs := [.xs (.int .i32) 256]) (fun _ => True) fun x => fDRed x.1
noncomputable def g_dring_near : Int × Int × Unit → Option Int := Spec (ks := [.int .i32, .int .i32]) (rs := [.int .i32]) (fun x => 0 ≤ x.1 ∧ x.1 ≤ 8380416 ∧ 0 < x.2.1 ∧ x.2.1 ≤ 523776) fun x => fNear x.1 x.2.1
noncomputable def g_dring_parts : Int × Unit → Option (Int × Int) := Spec (ks := [.int .i32]) (rs := [.int .i32, .int .i32]) (fun _ => True) fun x => (fDh x.1, fDl x.1)
noncomputable def g_dring_Power2Round : List Int × Unit → Option (List Int × List Int) := Spec (ks := [.xs (.int .i32) 256]) (rs := [.xs (.int .i32) 256, .xs (.int .i32) 256]) (fun _ => True) fun x => fP2R x.1
noncomputable def g_dring_Decompose : List Int × Unit → Option (List Int × List Int) := Spec (ks := [.xs (.int .i32) 256]) (rs := [.xs (.int .i32) 256, .xs (.int .i32) 256]) (fun _ => True) fun x => fDec x.1
noncomputable def g_ref15_mod : Int × Unit → Option Int := Spec (ks := [.int .i64]) (rs := [.int .i64]) (fun _ => True) fun x => x.1 % 8380417
noncomputable def g_ref15_Reduce : List Int × Unit → Option (List Int) := Spec (ks := [.xs (.int .i32) 256]) (rs := [.xs (.int .i32) 256]) (fun _ => True) fun x => fDRed x.1
noncomputable def g_ref15_Power2Round : List Int × Unit → Option (List Int × List Int) := Spec (ks := [.xs (.int .i32) 256]) (rs := [.xs (.int .i32) 256, .xs (.int .i32) 256]) (fun _ => True) fun x => fP2R x.1
noncomputable def g_ref15_Decompose : List Int × Unit → Option (List Int × List Int) := Spec (ks := [.xs (.int .i32) 256]) (rs := [.xs (.int .i32) 256, .xs (.int .i32) 256]) (fun _ => True) fun x => fDec x.1
noncomputable def g_law15_live : Unit → Option Bool := Spec (ks := []) (rs := [.bool]) (fun _ => True) fun _ => true
noncomputable def g_law15_DringRounds : List Int × Unit → Option Bool := Spec (ks := [.xs (.int .i32) 256]) (rs := [.bool]) (fun _ => True) fun _ => true
end Go.Ax.TryP
