/-
  No cell of these rows narrows 'for every input' (looked for: loops, veiled, ifaces, maps, wideKeys, modest, calm, conditions, laid).
  DERIVED. THE GIVEN ROWS OF THIS SEAT. 5 by the template 'for every input the law returns true; each argument reads behind the call as it read before'; 0 by the template 'total and deterministic' (their statements: YthnokigjmkaojaaTotals.lean).
  GIVEN WITH THE SEED: the statements are not yours to turn. If you find one false, say at which input.
  Laid BY PROGRAM, IN A SANDBOX (cutbox-rows.mjs): the forced cells as the released guide's own fill.sh prints them over the translation 98168729524c1f86… (all of the seat's roots in one cut). By AI agents, Wed Nov 11 2026. No macro, syntax, notation, axiom, sorry.
-/
import Derived.Test.YthnokigjmkaojaaChecked
import GoSem.Claim
import GoSem.ClaimJoined
import GoSem.ClaimMapViews
import Derived.JoinedTies
import Derived.KernelRfl
namespace Go.Proofs.Ythnokigjmkaojaa
/- THE CELL 'sum', in the pinned program and in every row, IS THE sha256 OF THE DUMP (.gsa) THAT YthnokigjmkaojaaProg.lean LOADS. Nothing in Lean hashes anything: it is a label: what it is worth is what the hold of that sum in a sandbox is worth. -/
noncomputable def Try.pinned : Pinned := { name := "ythnokigjmkaojaa", sum := "98168729524c1f866eef4b7ea0faa31e25e9823231cd8bb25c60acd61b4bb43a", checked := Try.checked }
namespace Rows
def none {H : Type} : Left H := { results := [], args := [] }

/-- 'liverylaw23.CapsuleCuts': WHATEVER THE INPUT: true; the input reads as it did. -/
def capsuleCutsSpec : ChangeSpec := { name := "capsuleCuts", fn := fun _ => fun
  | [d1, d2, d3] => { results := [.lit (.bool true)], args := [d1, d2, d3] }
  | _ => none }
def capsuleCutsRow : OpenClaim := { program := "ythnokigjmkaojaa", sum := "98168729524c1f866eef4b7ea0faa31e25e9823231cd8bb25c60acd61b4bb43a", func := "livery/liverylaw23.CapsuleCuts", spec := "capsuleCuts", unfollowed := true, recurses := true, apart := false }
def CapsuleCutsSaid : Prop := capsuleCutsRow.holds Try.pinned (OpenSpec.ofChange capsuleCutsSpec)

/-- ITS FALSE NEIGHBOUR: 'it returns false'. Refute it at one input. -/
def capsuleCutsWrong : ChangeSpec := { name := "capsuleCuts", fn := fun _ => fun
  | [d1, d2, d3] => { results := [.lit (.bool false)], args := [d1, d2, d3] }
  | _ => none }
def CapsuleCutsWrongFalsely : Prop := capsuleCutsRow.holds Try.pinned (OpenSpec.ofChange capsuleCutsWrong)

/-- 'liverylaw23.CapsuleApart': WHATEVER THE INPUT: true; the input reads as it did. -/
def capsuleApartSpec : ChangeSpec := { name := "capsuleApart", fn := fun _ => fun
  | [d1, d2] => { results := [.lit (.bool true)], args := [d1, d2] }
  | _ => none }
def capsuleApartRow : OpenClaim := { program := "ythnokigjmkaojaa", sum := "98168729524c1f866eef4b7ea0faa31e25e9823231cd8bb25c60acd61b4bb43a", func := "livery/liverylaw23.CapsuleApart", spec := "capsuleApart", unfollowed := true, recurses := true, apart := false }
def CapsuleApartSaid : Prop := capsuleApartRow.holds Try.pinned (OpenSpec.ofChange capsuleApartSpec)

/-- ITS FALSE NEIGHBOUR: 'it returns false'. Refute it at one input. -/
def capsuleApartWrong : ChangeSpec := { name := "capsuleApart", fn := fun _ => fun
  | [d1, d2] => { results := [.lit (.bool false)], args := [d1, d2] }
  | _ => none }
def CapsuleApartWrongFalsely : Prop := capsuleApartRow.holds Try.pinned (OpenSpec.ofChange capsuleApartWrong)

/-- 'liverylaw23.CapsulePuts': WHATEVER THE INPUT: true; the input reads as it did. -/
def capsulePutsSpec : ChangeSpec := { name := "capsulePuts", fn := fun _ => fun
  | [d1, d2] => { results := [.lit (.bool true)], args := [d1, d2] }
  | _ => none }
def capsulePutsRow : OpenClaim := { program := "ythnokigjmkaojaa", sum := "98168729524c1f866eef4b7ea0faa31e25e9823231cd8bb25c60acd61b4bb43a", func := "livery/liverylaw23.CapsulePuts", spec := "capsulePuts", unfollowed := true, recurses := true, apart := false }
def CapsulePutsSaid : Prop := capsulePutsRow.holds Try.pinned (OpenSpec.ofChange capsulePutsSpec)

/-- ITS FALSE NEIGHBOUR: 'it returns false'. Refute it at one input. -/
def capsulePutsWrong : ChangeSpec := { name := "capsulePuts", fn := fun _ => fun
  | [d1, d2] => { results := [.lit (.bool false)], args := [d1, d2] }
  | _ => none }
def CapsulePutsWrongFalsely : Prop := capsulePutsRow.holds Try.pinned (OpenSpec.ofChange capsulePutsWrong)

/-- 'liverylaw23.CapsuleGets': WHATEVER THE INPUT: true; the input reads as it did. -/
def capsuleGetsSpec : ChangeSpec := { name := "capsuleGets", fn := fun _ => fun
  | [d] => { results := [.lit (.bool true)], args := [d] }
  | _ => none }
def capsuleGetsRow : OpenClaim := { program := "ythnokigjmkaojaa", sum := "98168729524c1f866eef4b7ea0faa31e25e9823231cd8bb25c60acd61b4bb43a", func := "livery/liverylaw23.CapsuleGets", spec := "capsuleGets", unfollowed := true, recurses := true, apart := false }
def CapsuleGetsSaid : Prop := capsuleGetsRow.holds Try.pinned (OpenSpec.ofChange capsuleGetsSpec)

/-- ITS FALSE NEIGHBOUR: 'it returns false'. Refute it at one input. -/
def capsuleGetsWrong : ChangeSpec := { name := "capsuleGets", fn := fun _ => fun
  | [d] => { results := [.lit (.bool false)], args := [d] }
  | _ => none }
def CapsuleGetsWrongFalsely : Prop := capsuleGetsRow.holds Try.pinned (OpenSpec.ofChange capsuleGetsWrong)

/-- 'liverylaw23.CapsuleBack': WHATEVER THE INPUT: true; the input reads as it did. -/
def capsuleBackSpec : ChangeSpec := { name := "capsuleBack", fn := fun _ => fun
  | [d1, d2] => { results := [.lit (.bool true)], args := [d1, d2] }
  | _ => none }
def capsuleBackRow : OpenClaim := { program := "ythnokigjmkaojaa", sum := "98168729524c1f866eef4b7ea0faa31e25e9823231cd8bb25c60acd61b4bb43a", func := "livery/liverylaw23.CapsuleBack", spec := "capsuleBack", unfollowed := true, recurses := true, apart := false }
def CapsuleBackSaid : Prop := capsuleBackRow.holds Try.pinned (OpenSpec.ofChange capsuleBackSpec)

/-- ITS FALSE NEIGHBOUR: 'it returns false'. Refute it at one input. -/
def capsuleBackWrong : ChangeSpec := { name := "capsuleBack", fn := fun _ => fun
  | [d1, d2] => { results := [.lit (.bool false)], args := [d1, d2] }
  | _ => none }
def CapsuleBackWrongFalsely : Prop := capsuleBackRow.holds Try.pinned (OpenSpec.ofChange capsuleBackWrong)

/- THE SECOND FORM. 'bulk': how many values and letters a reading holds, each counted each time it is reached (what is shared counts as often as it is met; a slice's spare places count too). A statement '..UptoSaid' is the law's where the arguments, and the package variables that the reading takes, are together of bulk at most 1048576: NARROWER than '..Said'. Prove '..Said' where nothing that the law and all that it calls make is longer than what came in: it says more and counts as full. Else prove '..UptoSaid'. A law counts once. -/
mutual
def uptoBulk {H : Type} : DataW H → Nat
  | .lit (.string bytes) => bytes.length + 1
  | .lit _ => 1
  | .nil => 1
  | .ptr d => uptoBulk d + 1
  | .slice elems spare => uptoBulkAll elems + uptoBulkAll spare + 1
  | .agg parts => uptoBulkAll parts + 1
  | .iface _ d => uptoBulk d + 1
  | .map entries => uptoBulkEntries entries + 1
  | .held _ => 1
def uptoBulkAll {H : Type} : List (DataW H) → Nat
  | [] => 0
  | d :: r => uptoBulk d + uptoBulkAll r
def uptoBulkEntries {H : Type} : List (Lit × DataW H) → Nat
  | [] => 0
  | x :: r => uptoBulkEntry x + uptoBulkEntries r
def uptoBulkEntry {H : Type} : Lit × DataW H → Nat
  | (.string bytes, d) => bytes.length + uptoBulk d + 1
  | (_, d) => uptoBulk d + 1
 end
def uptoSmall : (H : Type) → List (DataW H) → Bool := fun _ ds => decide (uptoBulkAll ds ≤ 1048576)
def OpenSpec.upto (s : _root_.Go.ChangeSpec) : _root_.Go.OpenSpec := { _root_.Go.OpenSpec.ofChange s with cond := some uptoSmall }

/-- 'liverylaw23.CapsuleCuts', WHERE WHAT IT READS IS OF BULK AT MOST 1048576: true; the input reads as it did. -/
def capsuleCutsUptoRow : OpenClaim := { program := "ythnokigjmkaojaa", sum := "98168729524c1f866eef4b7ea0faa31e25e9823231cd8bb25c60acd61b4bb43a", func := "livery/liverylaw23.CapsuleCuts", spec := "capsuleCuts", unfollowed := true, recurses := true, apart := false, narrowed := true }
def CapsuleCutsUptoSaid : Prop := capsuleCutsUptoRow.holds Try.pinned (OpenSpec.upto capsuleCutsSpec)

/-- 'liverylaw23.CapsuleApart', WHERE WHAT IT READS IS OF BULK AT MOST 1048576: true; the input reads as it did. -/
def capsuleApartUptoRow : OpenClaim := { program := "ythnokigjmkaojaa", sum := "98168729524c1f866eef4b7ea0faa31e25e9823231cd8bb25c60acd61b4bb43a", func := "livery/liverylaw23.CapsuleApart", spec := "capsuleApart", unfollowed := true, recurses := true, apart := false, narrowed := true }
def CapsuleApartUptoSaid : Prop := capsuleApartUptoRow.holds Try.pinned (OpenSpec.upto capsuleApartSpec)

/-- 'liverylaw23.CapsulePuts', WHERE WHAT IT READS IS OF BULK AT MOST 1048576: true; the input reads as it did. -/
def capsulePutsUptoRow : OpenClaim := { program := "ythnokigjmkaojaa", sum := "98168729524c1f866eef4b7ea0faa31e25e9823231cd8bb25c60acd61b4bb43a", func := "livery/liverylaw23.CapsulePuts", spec := "capsulePuts", unfollowed := true, recurses := true, apart := false, narrowed := true }
def CapsulePutsUptoSaid : Prop := capsulePutsUptoRow.holds Try.pinned (OpenSpec.upto capsulePutsSpec)

/-- 'liverylaw23.CapsuleGets', WHERE WHAT IT READS IS OF BULK AT MOST 1048576: true; the input reads as it did. -/
def capsuleGetsUptoRow : OpenClaim := { program := "ythnokigjmkaojaa", sum := "98168729524c1f866eef4b7ea0faa31e25e9823231cd8bb25c60acd61b4bb43a", func := "livery/liverylaw23.CapsuleGets", spec := "capsuleGets", unfollowed := true, recurses := true, apart := false, narrowed := true }
def CapsuleGetsUptoSaid : Prop := capsuleGetsUptoRow.holds Try.pinned (OpenSpec.upto capsuleGetsSpec)

/-- 'liverylaw23.CapsuleBack', WHERE WHAT IT READS IS OF BULK AT MOST 1048576: true; the input reads as it did. -/
def capsuleBackUptoRow : OpenClaim := { program := "ythnokigjmkaojaa", sum := "98168729524c1f866eef4b7ea0faa31e25e9823231cd8bb25c60acd61b4bb43a", func := "livery/liverylaw23.CapsuleBack", spec := "capsuleBack", unfollowed := true, recurses := true, apart := false, narrowed := true }
def CapsuleBackUptoSaid : Prop := capsuleBackUptoRow.holds Try.pinned (OpenSpec.upto capsuleBackSpec)

end Rows
end Go.Proofs.Ythnokigjmkaojaa
