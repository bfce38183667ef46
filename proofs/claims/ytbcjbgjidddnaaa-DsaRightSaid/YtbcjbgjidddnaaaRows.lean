/-
  No cell of these rows narrows 'for every input' (looked for: loops, veiled, ifaces, maps, wideKeys, modest, calm, conditions, laid).
  DERIVED. THE GIVEN ROWS OF THIS SEAT. 3 by the template 'for every input the law returns true; each argument reads behind the call as it read before'; 0 by the template 'total and deterministic' (their statements: YtbcjbgjidddnaaaTotals.lean).
  GIVEN WITH THE SEED: the statements are not yours to turn. If you find one false, say at which input.
  Laid BY PROGRAM, IN A SANDBOX (cutbox-rows.mjs): the forced cells as the released guide's own fill.sh prints them over the translation 9c4cd610dc4b7650… (all of the seat's roots in one cut). By AI agents, Wed Nov 11 2026. No macro, syntax, notation, axiom, sorry.
-/
import Derived.Test.YtbcjbgjidddnaaaChecked
import GoSem.Claim
import GoSem.ClaimJoined
import GoSem.ClaimMapViews
import Derived.JoinedTies
import Derived.KernelRfl
namespace Go.Proofs.Ytbcjbgjidddnaaa
/- THE CELL 'sum', in the pinned program and in every row, IS THE sha256 OF THE DUMP (.gsa) THAT YtbcjbgjidddnaaaProg.lean LOADS. Nothing in Lean hashes anything: it is a label: what it is worth is what the hold of that sum in a sandbox is worth. -/
noncomputable def Try.pinned : Pinned := { name := "ytbcjbgjidddnaaa", sum := "9c4cd610dc4b765059a5a32390a188045c1a0d83b5a1b4c4fd750567cf460114", checked := Try.checked }
namespace Rows
def none {H : Type} : Left H := { results := [], args := [] }

/-- 'liverylaw16.DsaRight': WHATEVER THE INPUT: true; the input reads as it did. -/
def dsaRightSpec : ChangeSpec := { name := "dsaRight", fn := fun _ => fun
  | [d1, d2, d3, d4, d5] => { results := [.lit (.bool true)], args := [d1, d2, d3, d4, d5] }
  | _ => none }
def dsaRightRow : OpenClaim := { program := "ytbcjbgjidddnaaa", sum := "9c4cd610dc4b765059a5a32390a188045c1a0d83b5a1b4c4fd750567cf460114", func := "livery/liverylaw16.DsaRight", spec := "dsaRight", unfollowed := true, recurses := true, apart := false }
def DsaRightSaid : Prop := dsaRightRow.holds Try.pinned (OpenSpec.ofChange dsaRightSpec)

/-- ITS FALSE NEIGHBOUR: 'it returns false'. Refute it at one input. -/
def dsaRightWrong : ChangeSpec := { name := "dsaRight", fn := fun _ => fun
  | [d1, d2, d3, d4, d5] => { results := [.lit (.bool false)], args := [d1, d2, d3, d4, d5] }
  | _ => none }
def DsaRightWrongFalsely : Prop := dsaRightRow.holds Try.pinned (OpenSpec.ofChange dsaRightWrong)

/-- 'liverylaw16.DsaStrict': WHATEVER THE INPUT: true; the input reads as it did. -/
def dsaStrictSpec : ChangeSpec := { name := "dsaStrict", fn := fun _ => fun
  | [d1, d2, d3, d4, d5] => { results := [.lit (.bool true)], args := [d1, d2, d3, d4, d5] }
  | _ => none }
def dsaStrictRow : OpenClaim := { program := "ytbcjbgjidddnaaa", sum := "9c4cd610dc4b765059a5a32390a188045c1a0d83b5a1b4c4fd750567cf460114", func := "livery/liverylaw16.DsaStrict", spec := "dsaStrict", unfollowed := true, recurses := true, apart := false }
def DsaStrictSaid : Prop := dsaStrictRow.holds Try.pinned (OpenSpec.ofChange dsaStrictSpec)

/-- ITS FALSE NEIGHBOUR: 'it returns false'. Refute it at one input. -/
def dsaStrictWrong : ChangeSpec := { name := "dsaStrict", fn := fun _ => fun
  | [d1, d2, d3, d4, d5] => { results := [.lit (.bool false)], args := [d1, d2, d3, d4, d5] }
  | _ => none }
def DsaStrictWrongFalsely : Prop := dsaStrictRow.holds Try.pinned (OpenSpec.ofChange dsaStrictWrong)

/-- 'liverylaw16.DsaTries': WHATEVER THE INPUT: true; the input reads as it did. -/
def dsaTriesSpec : ChangeSpec := { name := "dsaTries", fn := fun _ => fun
  | [d1, d2, d3, d4, d5] => { results := [.lit (.bool true)], args := [d1, d2, d3, d4, d5] }
  | _ => none }
def dsaTriesRow : OpenClaim := { program := "ytbcjbgjidddnaaa", sum := "9c4cd610dc4b765059a5a32390a188045c1a0d83b5a1b4c4fd750567cf460114", func := "livery/liverylaw16.DsaTries", spec := "dsaTries", unfollowed := true, recurses := true, apart := false }
def DsaTriesSaid : Prop := dsaTriesRow.holds Try.pinned (OpenSpec.ofChange dsaTriesSpec)

/-- ITS FALSE NEIGHBOUR: 'it returns false'. Refute it at one input. -/
def dsaTriesWrong : ChangeSpec := { name := "dsaTries", fn := fun _ => fun
  | [d1, d2, d3, d4, d5] => { results := [.lit (.bool false)], args := [d1, d2, d3, d4, d5] }
  | _ => none }
def DsaTriesWrongFalsely : Prop := dsaTriesRow.holds Try.pinned (OpenSpec.ofChange dsaTriesWrong)

/- THE SECOND FORM. 'bulk': how many values and letters a reading holds, each counted each time it is reached (what is shared counts as often as it is met; a slice's spare places count too). A statement '..UptoSaid' is the law's where the arguments, and the package variables that the reading takes, are together of bulk at most 1048576: NARROWER than '..Said'. Prove '..Said' where nothing that the law and all that it calls make is longer than what came in: it says more and counts as full. Else prove '..UptoSaid'. A law counts once. -/
mutual
def uptoBulk {H : Type} : DataW H → Nat
  | .lit (.string bytes) => bytes.length + 1
  | .lit _ => 1
  | .nil => 1
  | .ptr d => uptoBulk d + 1
  | .slice elems spare => uptoBulkAll elems + uptoBulkAll spare + 1
  | .agg parts => uptoBulkAll parts + 1
  | .iface _ d => uptoBulk d + 1
  | .map entries => uptoBulkEntries entries + 1
  | .held _ => 1
def uptoBulkAll {H : Type} : List (DataW H) → Nat
  | [] => 0
  | d :: r => uptoBulk d + uptoBulkAll r
def uptoBulkEntries {H : Type} : List (Lit × DataW H) → Nat
  | [] => 0
  | x :: r => uptoBulkEntry x + uptoBulkEntries r
def uptoBulkEntry {H : Type} : Lit × DataW H → Nat
  | (.string bytes, d) => bytes.length + uptoBulk d + 1
  | (_, d) => uptoBulk d + 1
 end
def uptoSmall : (H : Type) → List (DataW H) → Bool := fun _ ds => decide (uptoBulkAll ds ≤ 1048576)
def OpenSpec.upto (s : _root_.Go.ChangeSpec) : _root_.Go.OpenSpec := { _root_.Go.OpenSpec.ofChange s with cond := some uptoSmall }

/-- 'liverylaw16.DsaRight', WHERE WHAT IT READS IS OF BULK AT MOST 1048576: true; the input reads as it did. -/
def dsaRightUptoRow : OpenClaim := { program := "ytbcjbgjidddnaaa", sum := "9c4cd610dc4b765059a5a32390a188045c1a0d83b5a1b4c4fd750567cf460114", func := "livery/liverylaw16.DsaRight", spec := "dsaRight", unfollowed := true, recurses := true, apart := false, narrowed := true }
def DsaRightUptoSaid : Prop := dsaRightUptoRow.holds Try.pinned (OpenSpec.upto dsaRightSpec)

/-- 'liverylaw16.DsaStrict', WHERE WHAT IT READS IS OF BULK AT MOST 1048576: true; the input reads as it did. -/
def dsaStrictUptoRow : OpenClaim := { program := "ytbcjbgjidddnaaa", sum := "9c4cd610dc4b765059a5a32390a188045c1a0d83b5a1b4c4fd750567cf460114", func := "livery/liverylaw16.DsaStrict", spec := "dsaStrict", unfollowed := true, recurses := true, apart := false, narrowed := true }
def DsaStrictUptoSaid : Prop := dsaStrictUptoRow.holds Try.pinned (OpenSpec.upto dsaStrictSpec)

/-- 'liverylaw16.DsaTries', WHERE WHAT IT READS IS OF BULK AT MOST 1048576: true; the input reads as it did. -/
def dsaTriesUptoRow : OpenClaim := { program := "ytbcjbgjidddnaaa", sum := "9c4cd610dc4b765059a5a32390a188045c1a0d83b5a1b4c4fd750567cf460114", func := "livery/liverylaw16.DsaTries", spec := "dsaTries", unfollowed := true, recurses := true, apart := false, narrowed := true }
def DsaTriesUptoSaid : Prop := dsaTriesUptoRow.holds Try.pinned (OpenSpec.upto dsaTriesSpec)

end Rows
end Go.Proofs.Ytbcjbgjidddnaaa
