/-
  No cell of these rows narrows 'for every input' (looked for: loops, veiled, ifaces, maps, wideKeys, modest, calm, conditions, laid).
  DERIVED. THE GIVEN ROWS OF THIS SEAT. 3 by the template 'for every input the law returns true; each argument reads behind the call as it read before'; 0 by the template 'total and deterministic' (their statements: YtplhlghciccaiaaTotals.lean).
  GIVEN WITH THE SEED: the statements are not yours to turn. If you find one false, say at which input.
  Laid BY PROGRAM, IN A SANDBOX (cutbox-rows.mjs): the forced cells as the released guide's own fill.sh prints them over the translation 66d025d65fd48861… (all of the seat's roots in one cut). By AI agents, Wed Nov 11 2026. No macro, syntax, notation, axiom, sorry.
-/
import Derived.Test.YtplhlghciccaiaaChecked
import GoSem.Claim
import GoSem.ClaimJoined
import GoSem.ClaimMapViews
import Derived.JoinedTies
import Derived.KernelRfl
namespace Go.Proofs.Ytplhlghciccaiaa
/- THE CELL 'sum', in the pinned program and in every row, IS THE sha256 OF THE DUMP (.gsa) THAT YtplhlghciccaiaaProg.lean LOADS. Nothing in Lean hashes anything: it is a label: what it is worth is what the hold of that sum in a sandbox is worth. -/
noncomputable def Try.pinned : Pinned := { name := "ytplhlghciccaiaa", sum := "66d025d65fd48861f36ba18fbd312f27be23a5b1a65a316c5ad487aa03fcaace", checked := Try.checked }
namespace Rows
def none {H : Type} : Left H := { results := [], args := [] }

/-- 'liverylaw14.KemChecks': WHATEVER THE INPUT: true; the input reads as it did. -/
def kemChecksSpec : ChangeSpec := { name := "kemChecks", fn := fun _ => fun
  | [d1, d2, d3, d4] => { results := [.lit (.bool true)], args := [d1, d2, d3, d4] }
  | _ => none }
def kemChecksRow : OpenClaim := { program := "ytplhlghciccaiaa", sum := "66d025d65fd48861f36ba18fbd312f27be23a5b1a65a316c5ad487aa03fcaace", func := "livery/liverylaw14.KemChecks", spec := "kemChecks", unfollowed := true, recurses := true, apart := false }
def KemChecksSaid : Prop := kemChecksRow.holds Try.pinned (OpenSpec.ofChange kemChecksSpec)

/-- ITS FALSE NEIGHBOUR: 'it returns false'. Refute it at one input. -/
def kemChecksWrong : ChangeSpec := { name := "kemChecks", fn := fun _ => fun
  | [d1, d2, d3, d4] => { results := [.lit (.bool false)], args := [d1, d2, d3, d4] }
  | _ => none }
def KemChecksWrongFalsely : Prop := kemChecksRow.holds Try.pinned (OpenSpec.ofChange kemChecksWrong)

/-- 'liverylaw14.KemAgrees': WHATEVER THE INPUT: true; the input reads as it did. -/
def kemAgreesSpec : ChangeSpec := { name := "kemAgrees", fn := fun _ => fun
  | [d1, d2, d3] => { results := [.lit (.bool true)], args := [d1, d2, d3] }
  | _ => none }
def kemAgreesRow : OpenClaim := { program := "ytplhlghciccaiaa", sum := "66d025d65fd48861f36ba18fbd312f27be23a5b1a65a316c5ad487aa03fcaace", func := "livery/liverylaw14.KemAgrees", spec := "kemAgrees", unfollowed := true, recurses := true, apart := false }
def KemAgreesSaid : Prop := kemAgreesRow.holds Try.pinned (OpenSpec.ofChange kemAgreesSpec)

/-- ITS FALSE NEIGHBOUR: 'it returns false'. Refute it at one input. -/
def kemAgreesWrong : ChangeSpec := { name := "kemAgrees", fn := fun _ => fun
  | [d1, d2, d3] => { results := [.lit (.bool false)], args := [d1, d2, d3] }
  | _ => none }
def KemAgreesWrongFalsely : Prop := kemAgreesRow.holds Try.pinned (OpenSpec.ofChange kemAgreesWrong)

/-- 'liverylaw14.KemRejects': WHATEVER THE INPUT: true; the input reads as it did. -/
def kemRejectsSpec : ChangeSpec := { name := "kemRejects", fn := fun _ => fun
  | [d1, d2, d3] => { results := [.lit (.bool true)], args := [d1, d2, d3] }
  | _ => none }
def kemRejectsRow : OpenClaim := { program := "ytplhlghciccaiaa", sum := "66d025d65fd48861f36ba18fbd312f27be23a5b1a65a316c5ad487aa03fcaace", func := "livery/liverylaw14.KemRejects", spec := "kemRejects", unfollowed := true, recurses := true, apart := false }
def KemRejectsSaid : Prop := kemRejectsRow.holds Try.pinned (OpenSpec.ofChange kemRejectsSpec)

/-- ITS FALSE NEIGHBOUR: 'it returns false'. Refute it at one input. -/
def kemRejectsWrong : ChangeSpec := { name := "kemRejects", fn := fun _ => fun
  | [d1, d2, d3] => { results := [.lit (.bool false)], args := [d1, d2, d3] }
  | _ => none }
def KemRejectsWrongFalsely : Prop := kemRejectsRow.holds Try.pinned (OpenSpec.ofChange kemRejectsWrong)

/- THE SECOND FORM. 'bulk': how many values and letters a reading holds, each counted each time it is reached (what is shared counts as often as it is met; a slice's spare places count too). A statement '..UptoSaid' is the law's where the arguments, and the package variables that the reading takes, are together of bulk at most 1048576: NARROWER than '..Said'. Prove '..Said' where nothing that the law and all that it calls make is longer than what came in: it says more and counts as full. Else prove '..UptoSaid'. A law counts once. -/
mutual
def uptoBulk {H : Type} : DataW H → Nat
  | .lit (.string bytes) => bytes.length + 1
  | .lit _ => 1
  | .nil => 1
  | .ptr d => uptoBulk d + 1
  | .slice elems spare => uptoBulkAll elems + uptoBulkAll spare + 1
  | .agg parts => uptoBulkAll parts + 1
  | .iface _ d => uptoBulk d + 1
  | .map entries => uptoBulkEntries entries + 1
  | .held _ => 1
def uptoBulkAll {H : Type} : List (DataW H) → Nat
  | [] => 0
  | d :: r => uptoBulk d + uptoBulkAll r
def uptoBulkEntries {H : Type} : List (Lit × DataW H) → Nat
  | [] => 0
  | x :: r => uptoBulkEntry x + uptoBulkEntries r
def uptoBulkEntry {H : Type} : Lit × DataW H → Nat
  | (.string bytes, d) => bytes.length + uptoBulk d + 1
  | (_, d) => uptoBulk d + 1
 end
def uptoSmall : (H : Type) → List (DataW H) → Bool := fun _ ds => decide (uptoBulkAll ds ≤ 1048576)
def OpenSpec.upto (s : _root_.Go.ChangeSpec) : _root_.Go.OpenSpec := { _root_.Go.OpenSpec.ofChange s with cond := some uptoSmall }

/-- 'liverylaw14.KemChecks', WHERE WHAT IT READS IS OF BULK AT MOST 1048576: true; the input reads as it did. -/
def kemChecksUptoRow : OpenClaim := { program := "ytplhlghciccaiaa", sum := "66d025d65fd48861f36ba18fbd312f27be23a5b1a65a316c5ad487aa03fcaace", func := "livery/liverylaw14.KemChecks", spec := "kemChecks", unfollowed := true, recurses := true, apart := false, narrowed := true }
def KemChecksUptoSaid : Prop := kemChecksUptoRow.holds Try.pinned (OpenSpec.upto kemChecksSpec)

/-- 'liverylaw14.KemAgrees', WHERE WHAT IT READS IS OF BULK AT MOST 1048576: true; the input reads as it did. -/
def kemAgreesUptoRow : OpenClaim := { program := "ytplhlghciccaiaa", sum := "66d025d65fd48861f36ba18fbd312f27be23a5b1a65a316c5ad487aa03fcaace", func := "livery/liverylaw14.KemAgrees", spec := "kemAgrees", unfollowed := true, recurses := true, apart := false, narrowed := true }
def KemAgreesUptoSaid : Prop := kemAgreesUptoRow.holds Try.pinned (OpenSpec.upto kemAgreesSpec)

/-- 'liverylaw14.KemRejects', WHERE WHAT IT READS IS OF BULK AT MOST 1048576: true; the input reads as it did. -/
def kemRejectsUptoRow : OpenClaim := { program := "ytplhlghciccaiaa", sum := "66d025d65fd48861f36ba18fbd312f27be23a5b1a65a316c5ad487aa03fcaace", func := "livery/liverylaw14.KemRejects", spec := "kemRejects", unfollowed := true, recurses := true, apart := false, narrowed := true }
def KemRejectsUptoSaid : Prop := kemRejectsUptoRow.holds Try.pinned (OpenSpec.upto kemRejectsSpec)

end Rows
end Go.Proofs.Ytplhlghciccaiaa
