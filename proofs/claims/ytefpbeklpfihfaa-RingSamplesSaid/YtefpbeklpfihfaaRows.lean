/-
  No cell of these rows narrows 'for every input' (looked for: loops, veiled, ifaces, maps, wideKeys, modest, calm, conditions, laid).
  DERIVED. THE GIVEN ROWS OF THIS SEAT. 11 by the template 'for every input the law returns true; each argument reads behind the call as it read before'; 0 by the template 'total and deterministic' (their statements: YtefpbeklpfihfaaTotals.lean).
  GIVEN WITH THE SEED: the statements are not yours to turn. If you find one false, say at which input.
  Laid BY PROGRAM, IN A SANDBOX (cutbox-rows.mjs): the forced cells as the released guide's own fill.sh prints them over the translation f12e870def4299aa… (all of the seat's roots in one cut). By AI agents, Wed Nov 11 2026. No macro, syntax, notation, axiom, sorry.
-/
import Derived.Test.YtefpbeklpfihfaaChecked
import GoSem.Claim
import GoSem.ClaimJoined
import GoSem.ClaimMapViews
import Derived.JoinedTies
import Derived.KernelRfl
namespace Go.Proofs.Ytefpbeklpfihfaa
/- THE CELL 'sum', in the pinned program and in every row, IS THE sha256 OF THE DUMP (.gsa) THAT YtefpbeklpfihfaaProg.lean LOADS. Nothing in Lean hashes anything: it is a label: what it is worth is what the hold of that sum in a sandbox is worth. -/
noncomputable def Try.pinned : Pinned := { name := "ytefpbeklpfihfaa", sum := "f12e870def4299aa546df70436c750cf393a94b7a42884203db5213fe20f775f", checked := Try.checked }
namespace Rows
def none {H : Type} : Left H := { results := [], args := [] }

/-- 'liverylaw13.RingCompresses': WHATEVER THE INPUT: true; the input reads as it did. -/
def ringCompressesSpec : ChangeSpec := { name := "ringCompresses", fn := fun _ => fun
  | [d1, d2] => { results := [.lit (.bool true)], args := [d1, d2] }
  | _ => none }
def ringCompressesRow : OpenClaim := { program := "ytefpbeklpfihfaa", sum := "f12e870def4299aa546df70436c750cf393a94b7a42884203db5213fe20f775f", func := "livery/liverylaw13.RingCompresses", spec := "ringCompresses", apart := false }
def RingCompressesSaid : Prop := ringCompressesRow.holds Try.pinned (OpenSpec.ofChange ringCompressesSpec)

/-- ITS FALSE NEIGHBOUR: 'it returns false'. Refute it at one input. -/
def ringCompressesWrong : ChangeSpec := { name := "ringCompresses", fn := fun _ => fun
  | [d1, d2] => { results := [.lit (.bool false)], args := [d1, d2] }
  | _ => none }
def RingCompressesWrongFalsely : Prop := ringCompressesRow.holds Try.pinned (OpenSpec.ofChange ringCompressesWrong)

/-- 'liverylaw13.RingNear': WHATEVER THE INPUT: true; the input reads as it did. -/
def ringNearSpec : ChangeSpec := { name := "ringNear", fn := fun _ => fun
  | [d1, d2] => { results := [.lit (.bool true)], args := [d1, d2] }
  | _ => none }
def ringNearRow : OpenClaim := { program := "ytefpbeklpfihfaa", sum := "f12e870def4299aa546df70436c750cf393a94b7a42884203db5213fe20f775f", func := "livery/liverylaw13.RingNear", spec := "ringNear", apart := false }
def RingNearSaid : Prop := ringNearRow.holds Try.pinned (OpenSpec.ofChange ringNearSpec)

/-- ITS FALSE NEIGHBOUR: 'it returns false'. Refute it at one input. -/
def ringNearWrong : ChangeSpec := { name := "ringNear", fn := fun _ => fun
  | [d1, d2] => { results := [.lit (.bool false)], args := [d1, d2] }
  | _ => none }
def RingNearWrongFalsely : Prop := ringNearRow.holds Try.pinned (OpenSpec.ofChange ringNearWrong)

/-- 'liverylaw13.RingPairs': WHATEVER THE INPUT: true; the input reads as it did. -/
def ringPairsSpec : ChangeSpec := { name := "ringPairs", fn := fun _ => fun
  | [d1, d2] => { results := [.lit (.bool true)], args := [d1, d2] }
  | _ => none }
def ringPairsRow : OpenClaim := { program := "ytefpbeklpfihfaa", sum := "f12e870def4299aa546df70436c750cf393a94b7a42884203db5213fe20f775f", func := "livery/liverylaw13.RingPairs", spec := "ringPairs", apart := false }
def RingPairsSaid : Prop := ringPairsRow.holds Try.pinned (OpenSpec.ofChange ringPairsSpec)

/-- ITS FALSE NEIGHBOUR: 'it returns false'. Refute it at one input. -/
def ringPairsWrong : ChangeSpec := { name := "ringPairs", fn := fun _ => fun
  | [d1, d2] => { results := [.lit (.bool false)], args := [d1, d2] }
  | _ => none }
def RingPairsWrongFalsely : Prop := ringPairsRow.holds Try.pinned (OpenSpec.ofChange ringPairsWrong)

/-- 'liverylaw13.RingCbds': WHATEVER THE INPUT: true; the input reads as it did. -/
def ringCbdsSpec : ChangeSpec := { name := "ringCbds", fn := fun _ => fun
  | [d1, d2] => { results := [.lit (.bool true)], args := [d1, d2] }
  | _ => none }
def ringCbdsRow : OpenClaim := { program := "ytefpbeklpfihfaa", sum := "f12e870def4299aa546df70436c750cf393a94b7a42884203db5213fe20f775f", func := "livery/liverylaw13.RingCbds", spec := "ringCbds", unfollowed := true, recurses := true, apart := false }
def RingCbdsSaid : Prop := ringCbdsRow.holds Try.pinned (OpenSpec.ofChange ringCbdsSpec)

/-- ITS FALSE NEIGHBOUR: 'it returns false'. Refute it at one input. -/
def ringCbdsWrong : ChangeSpec := { name := "ringCbds", fn := fun _ => fun
  | [d1, d2] => { results := [.lit (.bool false)], args := [d1, d2] }
  | _ => none }
def RingCbdsWrongFalsely : Prop := ringCbdsRow.holds Try.pinned (OpenSpec.ofChange ringCbdsWrong)

/-- 'liverylaw13.RingNtts': WHATEVER THE INPUT: true; the input reads as it did. -/
def ringNttsSpec : ChangeSpec := { name := "ringNtts", fn := fun _ => fun
  | [d] => { results := [.lit (.bool true)], args := [d] }
  | _ => none }
def ringNttsRow : OpenClaim := { program := "ytefpbeklpfihfaa", sum := "f12e870def4299aa546df70436c750cf393a94b7a42884203db5213fe20f775f", func := "livery/liverylaw13.RingNtts", spec := "ringNtts", apart := false }
def RingNttsSaid : Prop := ringNttsRow.holds Try.pinned (OpenSpec.ofChange ringNttsSpec)

/-- ITS FALSE NEIGHBOUR: 'it returns false'. Refute it at one input. -/
def ringNttsWrong : ChangeSpec := { name := "ringNtts", fn := fun _ => fun
  | [d] => { results := [.lit (.bool false)], args := [d] }
  | _ => none }
def RingNttsWrongFalsely : Prop := ringNttsRow.holds Try.pinned (OpenSpec.ofChange ringNttsWrong)

/-- 'liverylaw13.RingTurns': WHATEVER THE INPUT: true; the input reads as it did. -/
def ringTurnsSpec : ChangeSpec := { name := "ringTurns", fn := fun _ => fun
  | [d1, d2] => { results := [.lit (.bool true)], args := [d1, d2] }
  | _ => none }
def ringTurnsRow : OpenClaim := { program := "ytefpbeklpfihfaa", sum := "f12e870def4299aa546df70436c750cf393a94b7a42884203db5213fe20f775f", func := "livery/liverylaw13.RingTurns", spec := "ringTurns", apart := false }
def RingTurnsSaid : Prop := ringTurnsRow.holds Try.pinned (OpenSpec.ofChange ringTurnsSpec)

/-- ITS FALSE NEIGHBOUR: 'it returns false'. Refute it at one input. -/
def ringTurnsWrong : ChangeSpec := { name := "ringTurns", fn := fun _ => fun
  | [d1, d2] => { results := [.lit (.bool false)], args := [d1, d2] }
  | _ => none }
def RingTurnsWrongFalsely : Prop := ringTurnsRow.holds Try.pinned (OpenSpec.ofChange ringTurnsWrong)

/-- 'liverylaw13.RingCodes': WHATEVER THE INPUT: true; the input reads as it did. -/
def ringCodesSpec : ChangeSpec := { name := "ringCodes", fn := fun _ => fun
  | [d1, d2, d3] => { results := [.lit (.bool true)], args := [d1, d2, d3] }
  | _ => none }
def ringCodesRow : OpenClaim := { program := "ytefpbeklpfihfaa", sum := "f12e870def4299aa546df70436c750cf393a94b7a42884203db5213fe20f775f", func := "livery/liverylaw13.RingCodes", spec := "ringCodes", apart := false }
def RingCodesSaid : Prop := ringCodesRow.holds Try.pinned (OpenSpec.ofChange ringCodesSpec)

/-- ITS FALSE NEIGHBOUR: 'it returns false'. Refute it at one input. -/
def ringCodesWrong : ChangeSpec := { name := "ringCodes", fn := fun _ => fun
  | [d1, d2, d3] => { results := [.lit (.bool false)], args := [d1, d2, d3] }
  | _ => none }
def RingCodesWrongFalsely : Prop := ringCodesRow.holds Try.pinned (OpenSpec.ofChange ringCodesWrong)

/-- 'liverylaw13.RingSums': WHATEVER THE INPUT: true; the input reads as it did. -/
def ringSumsSpec : ChangeSpec := { name := "ringSums", fn := fun _ => fun
  | [d1, d2] => { results := [.lit (.bool true)], args := [d1, d2] }
  | _ => none }
def ringSumsRow : OpenClaim := { program := "ytefpbeklpfihfaa", sum := "f12e870def4299aa546df70436c750cf393a94b7a42884203db5213fe20f775f", func := "livery/liverylaw13.RingSums", spec := "ringSums", apart := false }
def RingSumsSaid : Prop := ringSumsRow.holds Try.pinned (OpenSpec.ofChange ringSumsSpec)

/-- ITS FALSE NEIGHBOUR: 'it returns false'. Refute it at one input. -/
def ringSumsWrong : ChangeSpec := { name := "ringSums", fn := fun _ => fun
  | [d1, d2] => { results := [.lit (.bool false)], args := [d1, d2] }
  | _ => none }
def RingSumsWrongFalsely : Prop := ringSumsRow.holds Try.pinned (OpenSpec.ofChange ringSumsWrong)

/-- 'liverylaw13.RingLaws': WHATEVER THE INPUT: true; the input reads as it did. -/
def ringLawsSpec : ChangeSpec := { name := "ringLaws", fn := fun _ => fun
  | [d1, d2, d3] => { results := [.lit (.bool true)], args := [d1, d2, d3] }
  | _ => none }
def ringLawsRow : OpenClaim := { program := "ytefpbeklpfihfaa", sum := "f12e870def4299aa546df70436c750cf393a94b7a42884203db5213fe20f775f", func := "livery/liverylaw13.RingLaws", spec := "ringLaws", apart := false }
def RingLawsSaid : Prop := ringLawsRow.holds Try.pinned (OpenSpec.ofChange ringLawsSpec)

/-- ITS FALSE NEIGHBOUR: 'it returns false'. Refute it at one input. -/
def ringLawsWrong : ChangeSpec := { name := "ringLaws", fn := fun _ => fun
  | [d1, d2, d3] => { results := [.lit (.bool false)], args := [d1, d2, d3] }
  | _ => none }
def RingLawsWrongFalsely : Prop := ringLawsRow.holds Try.pinned (OpenSpec.ofChange ringLawsWrong)

/-- 'liverylaw13.RingBack': WHATEVER THE INPUT: true; the input reads as it did. -/
def ringBackSpec : ChangeSpec := { name := "ringBack", fn := fun _ => fun
  | [d1, d2] => { results := [.lit (.bool true)], args := [d1, d2] }
  | _ => none }
def ringBackRow : OpenClaim := { program := "ytefpbeklpfihfaa", sum := "f12e870def4299aa546df70436c750cf393a94b7a42884203db5213fe20f775f", func := "livery/liverylaw13.RingBack", spec := "ringBack", apart := false }
def RingBackSaid : Prop := ringBackRow.holds Try.pinned (OpenSpec.ofChange ringBackSpec)

/-- ITS FALSE NEIGHBOUR: 'it returns false'. Refute it at one input. -/
def ringBackWrong : ChangeSpec := { name := "ringBack", fn := fun _ => fun
  | [d1, d2] => { results := [.lit (.bool false)], args := [d1, d2] }
  | _ => none }
def RingBackWrongFalsely : Prop := ringBackRow.holds Try.pinned (OpenSpec.ofChange ringBackWrong)

/-- 'liverylaw13.RingSamples': WHATEVER THE INPUT: true; the input reads as it did. -/
def ringSamplesSpec : ChangeSpec := { name := "ringSamples", fn := fun _ => fun
  | [d] => { results := [.lit (.bool true)], args := [d] }
  | _ => none }
def ringSamplesRow : OpenClaim := { program := "ytefpbeklpfihfaa", sum := "f12e870def4299aa546df70436c750cf393a94b7a42884203db5213fe20f775f", func := "livery/liverylaw13.RingSamples", spec := "ringSamples", apart := false }
def RingSamplesSaid : Prop := ringSamplesRow.holds Try.pinned (OpenSpec.ofChange ringSamplesSpec)

/-- ITS FALSE NEIGHBOUR: 'it returns false'. Refute it at one input. -/
def ringSamplesWrong : ChangeSpec := { name := "ringSamples", fn := fun _ => fun
  | [d] => { results := [.lit (.bool false)], args := [d] }
  | _ => none }
def RingSamplesWrongFalsely : Prop := ringSamplesRow.holds Try.pinned (OpenSpec.ofChange ringSamplesWrong)

/- THE SECOND FORM. 'bulk': how many values and letters a reading holds, each counted each time it is reached (what is shared counts as often as it is met; a slice's spare places count too). A statement '..UptoSaid' is the law's where the arguments, and the package variables that the reading takes, are together of bulk at most 1048576: NARROWER than '..Said'. Prove '..Said' where nothing that the law and all that it calls make is longer than what came in: it says more and counts as full. Else prove '..UptoSaid'. A law counts once. -/
mutual
def uptoBulk {H : Type} : DataW H → Nat
  | .lit (.string bytes) => bytes.length + 1
  | .lit _ => 1
  | .nil => 1
  | .ptr d => uptoBulk d + 1
  | .slice elems spare => uptoBulkAll elems + uptoBulkAll spare + 1
  | .agg parts => uptoBulkAll parts + 1
  | .iface _ d => uptoBulk d + 1
  | .map entries => uptoBulkEntries entries + 1
  | .held _ => 1
def uptoBulkAll {H : Type} : List (DataW H) → Nat
  | [] => 0
  | d :: r => uptoBulk d + uptoBulkAll r
def uptoBulkEntries {H : Type} : List (Lit × DataW H) → Nat
  | [] => 0
  | x :: r => uptoBulkEntry x + uptoBulkEntries r
def uptoBulkEntry {H : Type} : Lit × DataW H → Nat
  | (.string bytes, d) => bytes.length + uptoBulk d + 1
  | (_, d) => uptoBulk d + 1
 end
def uptoSmall : (H : Type) → List (DataW H) → Bool := fun _ ds => decide (uptoBulkAll ds ≤ 1048576)
def OpenSpec.upto (s : _root_.Go.ChangeSpec) : _root_.Go.OpenSpec := { _root_.Go.OpenSpec.ofChange s with cond := some uptoSmall }

/-- 'liverylaw13.RingCompresses', WHERE WHAT IT READS IS OF BULK AT MOST 1048576: true; the input reads as it did. -/
def ringCompressesUptoRow : OpenClaim := { program := "ytefpbeklpfihfaa", sum := "f12e870def4299aa546df70436c750cf393a94b7a42884203db5213fe20f775f", func := "livery/liverylaw13.RingCompresses", spec := "ringCompresses", apart := false, narrowed := true }
def RingCompressesUptoSaid : Prop := ringCompressesUptoRow.holds Try.pinned (OpenSpec.upto ringCompressesSpec)

/-- 'liverylaw13.RingNear', WHERE WHAT IT READS IS OF BULK AT MOST 1048576: true; the input reads as it did. -/
def ringNearUptoRow : OpenClaim := { program := "ytefpbeklpfihfaa", sum := "f12e870def4299aa546df70436c750cf393a94b7a42884203db5213fe20f775f", func := "livery/liverylaw13.RingNear", spec := "ringNear", apart := false, narrowed := true }
def RingNearUptoSaid : Prop := ringNearUptoRow.holds Try.pinned (OpenSpec.upto ringNearSpec)

/-- 'liverylaw13.RingPairs', WHERE WHAT IT READS IS OF BULK AT MOST 1048576: true; the input reads as it did. -/
def ringPairsUptoRow : OpenClaim := { program := "ytefpbeklpfihfaa", sum := "f12e870def4299aa546df70436c750cf393a94b7a42884203db5213fe20f775f", func := "livery/liverylaw13.RingPairs", spec := "ringPairs", apart := false, narrowed := true }
def RingPairsUptoSaid : Prop := ringPairsUptoRow.holds Try.pinned (OpenSpec.upto ringPairsSpec)

/-- 'liverylaw13.RingCbds', WHERE WHAT IT READS IS OF BULK AT MOST 1048576: true; the input reads as it did. -/
def ringCbdsUptoRow : OpenClaim := { program := "ytefpbeklpfihfaa", sum := "f12e870def4299aa546df70436c750cf393a94b7a42884203db5213fe20f775f", func := "livery/liverylaw13.RingCbds", spec := "ringCbds", unfollowed := true, recurses := true, apart := false, narrowed := true }
def RingCbdsUptoSaid : Prop := ringCbdsUptoRow.holds Try.pinned (OpenSpec.upto ringCbdsSpec)

/-- 'liverylaw13.RingNtts', WHERE WHAT IT READS IS OF BULK AT MOST 1048576: true; the input reads as it did. -/
def ringNttsUptoRow : OpenClaim := { program := "ytefpbeklpfihfaa", sum := "f12e870def4299aa546df70436c750cf393a94b7a42884203db5213fe20f775f", func := "livery/liverylaw13.RingNtts", spec := "ringNtts", apart := false, narrowed := true }
def RingNttsUptoSaid : Prop := ringNttsUptoRow.holds Try.pinned (OpenSpec.upto ringNttsSpec)

/-- 'liverylaw13.RingTurns', WHERE WHAT IT READS IS OF BULK AT MOST 1048576: true; the input reads as it did. -/
def ringTurnsUptoRow : OpenClaim := { program := "ytefpbeklpfihfaa", sum := "f12e870def4299aa546df70436c750cf393a94b7a42884203db5213fe20f775f", func := "livery/liverylaw13.RingTurns", spec := "ringTurns", apart := false, narrowed := true }
def RingTurnsUptoSaid : Prop := ringTurnsUptoRow.holds Try.pinned (OpenSpec.upto ringTurnsSpec)

/-- 'liverylaw13.RingCodes', WHERE WHAT IT READS IS OF BULK AT MOST 1048576: true; the input reads as it did. -/
def ringCodesUptoRow : OpenClaim := { program := "ytefpbeklpfihfaa", sum := "f12e870def4299aa546df70436c750cf393a94b7a42884203db5213fe20f775f", func := "livery/liverylaw13.RingCodes", spec := "ringCodes", apart := false, narrowed := true }
def RingCodesUptoSaid : Prop := ringCodesUptoRow.holds Try.pinned (OpenSpec.upto ringCodesSpec)

/-- 'liverylaw13.RingSums', WHERE WHAT IT READS IS OF BULK AT MOST 1048576: true; the input reads as it did. -/
def ringSumsUptoRow : OpenClaim := { program := "ytefpbeklpfihfaa", sum := "f12e870def4299aa546df70436c750cf393a94b7a42884203db5213fe20f775f", func := "livery/liverylaw13.RingSums", spec := "ringSums", apart := false, narrowed := true }
def RingSumsUptoSaid : Prop := ringSumsUptoRow.holds Try.pinned (OpenSpec.upto ringSumsSpec)

/-- 'liverylaw13.RingLaws', WHERE WHAT IT READS IS OF BULK AT MOST 1048576: true; the input reads as it did. -/
def ringLawsUptoRow : OpenClaim := { program := "ytefpbeklpfihfaa", sum := "f12e870def4299aa546df70436c750cf393a94b7a42884203db5213fe20f775f", func := "livery/liverylaw13.RingLaws", spec := "ringLaws", apart := false, narrowed := true }
def RingLawsUptoSaid : Prop := ringLawsUptoRow.holds Try.pinned (OpenSpec.upto ringLawsSpec)

/-- 'liverylaw13.RingBack', WHERE WHAT IT READS IS OF BULK AT MOST 1048576: true; the input reads as it did. -/
def ringBackUptoRow : OpenClaim := { program := "ytefpbeklpfihfaa", sum := "f12e870def4299aa546df70436c750cf393a94b7a42884203db5213fe20f775f", func := "livery/liverylaw13.RingBack", spec := "ringBack", apart := false, narrowed := true }
def RingBackUptoSaid : Prop := ringBackUptoRow.holds Try.pinned (OpenSpec.upto ringBackSpec)

/-- 'liverylaw13.RingSamples', WHERE WHAT IT READS IS OF BULK AT MOST 1048576: true; the input reads as it did. -/
def ringSamplesUptoRow : OpenClaim := { program := "ytefpbeklpfihfaa", sum := "f12e870def4299aa546df70436c750cf393a94b7a42884203db5213fe20f775f", func := "livery/liverylaw13.RingSamples", spec := "ringSamples", apart := false, narrowed := true }
def RingSamplesUptoSaid : Prop := ringSamplesUptoRow.holds Try.pinned (OpenSpec.upto ringSamplesSpec)

end Rows
end Go.Proofs.Ytefpbeklpfihfaa
