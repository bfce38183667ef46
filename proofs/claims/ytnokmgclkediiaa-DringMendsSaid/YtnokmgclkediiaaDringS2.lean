/- A part of the proof: DringS2. -/
import Derived.Test.YtnokmgclkediiaaDringW1
/-! ### Centred numbers, sums, hints -/
namespace Go.Ax.TryP

def fCen (z : Int) : Int := if z % 8380417 > 4190208 then z % 8380417 - 8380417 else z % 8380417
def fDCen (a : List Int) : List Int := dpoly fun i => fCen (a.getD i 0)
def iabs (z : Int) : Int := if z < 0 then -z else z
@[irreducible] def normN (a : List Int) (n : Nat) : Int := (List.range n).foldl (fun m i => if iabs (fCen (a.getD i 0)) > m then iabs (fCen (a.getD i 0)) else m) 0
def fNorm (a : List Int) : Int := normN a 256
def fDAdd (a b : List Int) : List Int := dpoly fun i => (a.getD i 0 + b.getD i 0) % 8380417
def fDSub (a b : List Int) : List Int := dpoly fun i => (a.getD i 0 - b.getD i 0) % 8380417
def hintAt (z r : List Int) (i : Nat) : Int := if fDh (r.getD i 0) ≠ fDh ((r.getD i 0 + z.getD i 0) % 8380417) then 1 else 0
@[irreducible] def cntN (h : Nat → Int) (n : Nat) : Int := (List.range n).foldl (fun m i => if h i ≠ 0 then m + 1 else m) 0
def fHint (z r : List Int) : List Int × Int := (dpoly (hintAt z r), cntN (hintAt z r) 256)
def useAt (h r : Int) : Int := if h ≠ 0 then if fDl r > 0 then (fDh r + 1) % 16 else (fDh r + 15) % 16 else fDh r
def fUse (h r : List Int) : List Int := dpoly fun i => useAt (h.getD i 0) (r.getD i 0)

abbrev DP : Kd := .xs (.int .i32) 256
abbrev HP : Kd := .xs .bool 256
noncomputable def g_dring_centred : Int × Unit → Option Int := Spec (ks := [.int .i32]) (rs := [.int .i32]) (fun _ => True) fun x => fCen x.1
noncomputable def g_dring_each__dring_centred : List Int × Unit × Unit → Option (List Int) := Spec (ks := [.xs (.int .i32) 256, .fnc 67]) (rs := [.xs (.int .i32) 256]) (fun _ => True) fun x => fDCen x.1
noncomputable def g_dring_Center : List Int × Unit → Option (List Int) := Spec (ks := [.xs (.int .i32) 256]) (rs := [.xs (.int .i32) 256]) (fun _ => True) fun x => fDCen x.1
noncomputable def g_ref15_Center : List Int × Unit → Option (List Int) := Spec (ks := [.xs (.int .i32) 256]) (rs := [.xs (.int .i32) 256]) (fun _ => True) fun x => fDCen x.1
noncomputable def g_dring_Norm : List Int × Unit → Option Int := Spec (ks := [.xs (.int .i32) 256]) (rs := [.int .i32]) (fun _ => True) fun x => fNorm x.1
noncomputable def g_ref15_size : Int × Unit → Option Int := Spec (ks := [.int .i32]) (rs := [.int .i32]) (fun x => -2147483648 < x.1) fun x => iabs x.1
noncomputable def g_ref15_Norm : List Int × Unit → Option Int := Spec (ks := [.xs (.int .i32) 256]) (rs := [.int .i32]) (fun _ => True) fun x => fNorm x.1
noncomputable def g_dring_Add : List Int × List Int × Unit → Option (List Int) := Spec (ks := [.xs (.int .i32) 256, .xs (.int .i32) 256]) (rs := [.xs (.int .i32) 256]) (fun _ => True) fun x => fDAdd x.1 x.2.1
noncomputable def g_ref15_Add : List Int × List Int × Unit → Option (List Int) := Spec (ks := [.xs (.int .i32) 256, .xs (.int .i32) 256]) (rs := [.xs (.int .i32) 256]) (fun _ => True) fun x => fDAdd x.1 x.2.1
noncomputable def g_dring_Sub : List Int × List Int × Unit → Option (List Int) := Spec (ks := [.xs (.int .i32) 256, .xs (.int .i32) 256]) (rs := [.xs (.int .i32) 256]) (fun _ => True) fun x => fDSub x.1 x.2.1
noncomputable def g_ref15_Sub : List Int × List Int × Unit → Option (List Int) := Spec (ks := [.xs (.int .i32) 256, .xs (.int .i32) 256]) (rs := [.xs (.int .i32) 256]) (fun _ => True) fun x => fDSub x.1 x.2.1
noncomputable def g_dring_MakeHint : List Int × List Int × Unit → Option (List Int × Int) := Spec (ks := [.xs (.int .i32) 256, .xs (.int .i32) 256]) (rs := [.xs .bool 256, .int .i64]) (fun _ => True) fun x => fHint x.1 x.2.1
noncomputable def g_ref15_MakeHint : List Int × List Int × Unit → Option (List Int × Int) := Spec (ks := [.xs (.int .i32) 256, .xs (.int .i32) 256]) (rs := [.xs .bool 256, .int .i64]) (fun _ => True) fun x => fHint x.1 x.2.1
noncomputable def g_dring_UseHint : List Int × List Int × Unit → Option (List Int) := Spec (ks := [.xs .bool 256, .xs (.int .i32) 256]) (rs := [.xs (.int .i32) 256]) (fun _ => True) fun x => fUse x.1 x.2.1
noncomputable def g_ref15_UseHint : List Int × List Int × Unit → Option (List Int) := Spec (ks := [.xs .bool 256, .xs (.int .i32) 256]) (rs := [.xs (.int .i32) 256]) (fun _ => True) fun x => fUse x.1 x.2.1
noncomputable def g_law15_DringParts : List Int × Unit → Option Bool := Spec (ks := [.xs (.int .i32) 256]) (rs := [.bool]) (fun _ => True) fun _ => true
noncomputable def g_law15_DringHints : List Int × List Int × List Int × Unit → Option Bool := Spec (ks := [.xs (.int .i32) 256, .xs (.int .i32) 256, .xs .bool 256]) (rs := [.bool]) (fun _ => True) fun _ => true
noncomputable def g_law15_DringMends : List Int × List Int × Unit → Option Bool := Spec (ks := [.xs (.int .i32) 256, .xs (.int .i32) 256]) (rs := [.bool]) (fun _ => True) fun _ => true
end Go.Ax.TryP
