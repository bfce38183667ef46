/-
  No cell of these rows narrows 'for every input' (looked for: loops, veiled, ifaces, maps, wideKeys, modest, calm, conditions, laid).
  DERIVED. THE GIVEN ROWS OF THIS SEAT. 10 by the template 'for every input the law returns true; each argument reads behind the call as it read before'; 0 by the template 'total and deterministic' (their statements: YtnokmgclkediiaaTotals.lean).
  GIVEN WITH THE SEED: the statements are not yours to turn. If you find one false, say at which input.
  Laid BY PROGRAM, IN A SANDBOX (cutbox-rows.mjs): the forced cells as the released guide's own fill.sh prints them over the translation 5ef12f2e3ceb234a… (all of the seat's roots in one cut). By AI agents, Wed Nov 11 2026. No macro, syntax, notation, axiom, sorry.
-/
import Derived.Test.YtnokmgclkediiaaChecked
import GoSem.Claim
import GoSem.ClaimJoined
import GoSem.ClaimMapViews
import Derived.JoinedTies
import Derived.KernelRfl
namespace Go.Proofs.Ytnokmgclkediiaa
/- THE CELL 'sum', in the pinned program and in every row, IS THE sha256 OF THE DUMP (.gsa) THAT YtnokmgclkediiaaProg.lean LOADS. Nothing in Lean hashes anything: it is a label: what it is worth is what the hold of that sum in a sandbox is worth. -/
noncomputable def Try.pinned : Pinned := { name := "ytnokmgclkediiaa", sum := "5ef12f2e3ceb234a928e3b51db773be71988a52330792a3ffd9869a4e9fb2edf", checked := Try.checked }
namespace Rows
def none {H : Type} : Left H := { results := [], args := [] }

/-- 'liverylaw15.DringRounds': WHATEVER THE INPUT: true; the input reads as it did. -/
def dringRoundsSpec : ChangeSpec := { name := "dringRounds", fn := fun _ => fun
  | [d] => { results := [.lit (.bool true)], args := [d] }
  | _ => none }
def dringRoundsRow : OpenClaim := { program := "ytnokmgclkediiaa", sum := "5ef12f2e3ceb234a928e3b51db773be71988a52330792a3ffd9869a4e9fb2edf", func := "livery/liverylaw15.DringRounds", spec := "dringRounds", unfollowed := true, recurses := true, apart := false }
def DringRoundsSaid : Prop := dringRoundsRow.holds Try.pinned (OpenSpec.ofChange dringRoundsSpec)

/-- ITS FALSE NEIGHBOUR: 'it returns false'. Refute it at one input. -/
def dringRoundsWrong : ChangeSpec := { name := "dringRounds", fn := fun _ => fun
  | [d] => { results := [.lit (.bool false)], args := [d] }
  | _ => none }
def DringRoundsWrongFalsely : Prop := dringRoundsRow.holds Try.pinned (OpenSpec.ofChange dringRoundsWrong)

/-- 'liverylaw15.DringParts': WHATEVER THE INPUT: true; the input reads as it did. -/
def dringPartsSpec : ChangeSpec := { name := "dringParts", fn := fun _ => fun
  | [d] => { results := [.lit (.bool true)], args := [d] }
  | _ => none }
def dringPartsRow : OpenClaim := { program := "ytnokmgclkediiaa", sum := "5ef12f2e3ceb234a928e3b51db773be71988a52330792a3ffd9869a4e9fb2edf", func := "livery/liverylaw15.DringParts", spec := "dringParts", unfollowed := true, recurses := true, apart := false }
def DringPartsSaid : Prop := dringPartsRow.holds Try.pinned (OpenSpec.ofChange dringPartsSpec)

/-- ITS FALSE NEIGHBOUR: 'it returns false'. Refute it at one input. -/
def dringPartsWrong : ChangeSpec := { name := "dringParts", fn := fun _ => fun
  | [d] => { results := [.lit (.bool false)], args := [d] }
  | _ => none }
def DringPartsWrongFalsely : Prop := dringPartsRow.holds Try.pinned (OpenSpec.ofChange dringPartsWrong)

/-- 'liverylaw15.DringHints': WHATEVER THE INPUT: true; the input reads as it did. -/
def dringHintsSpec : ChangeSpec := { name := "dringHints", fn := fun _ => fun
  | [d1, d2, d3] => { results := [.lit (.bool true)], args := [d1, d2, d3] }
  | _ => none }
def dringHintsRow : OpenClaim := { program := "ytnokmgclkediiaa", sum := "5ef12f2e3ceb234a928e3b51db773be71988a52330792a3ffd9869a4e9fb2edf", func := "livery/liverylaw15.DringHints", spec := "dringHints", unfollowed := true, recurses := true, apart := false }
def DringHintsSaid : Prop := dringHintsRow.holds Try.pinned (OpenSpec.ofChange dringHintsSpec)

/-- ITS FALSE NEIGHBOUR: 'it returns false'. Refute it at one input. -/
def dringHintsWrong : ChangeSpec := { name := "dringHints", fn := fun _ => fun
  | [d1, d2, d3] => { results := [.lit (.bool false)], args := [d1, d2, d3] }
  | _ => none }
def DringHintsWrongFalsely : Prop := dringHintsRow.holds Try.pinned (OpenSpec.ofChange dringHintsWrong)

/-- 'liverylaw15.DringMends': WHATEVER THE INPUT: true; the input reads as it did. -/
def dringMendsSpec : ChangeSpec := { name := "dringMends", fn := fun _ => fun
  | [d1, d2] => { results := [.lit (.bool true)], args := [d1, d2] }
  | _ => none }
def dringMendsRow : OpenClaim := { program := "ytnokmgclkediiaa", sum := "5ef12f2e3ceb234a928e3b51db773be71988a52330792a3ffd9869a4e9fb2edf", func := "livery/liverylaw15.DringMends", spec := "dringMends", unfollowed := true, recurses := true, apart := false }
def DringMendsSaid : Prop := dringMendsRow.holds Try.pinned (OpenSpec.ofChange dringMendsSpec)

/-- ITS FALSE NEIGHBOUR: 'it returns false'. Refute it at one input. -/
def dringMendsWrong : ChangeSpec := { name := "dringMends", fn := fun _ => fun
  | [d1, d2] => { results := [.lit (.bool false)], args := [d1, d2] }
  | _ => none }
def DringMendsWrongFalsely : Prop := dringMendsRow.holds Try.pinned (OpenSpec.ofChange dringMendsWrong)

/-- 'liverylaw15.DringPlaces': WHATEVER THE INPUT: true; the input reads as it did. -/
def dringPlacesSpec : ChangeSpec := { name := "dringPlaces", fn := fun _ => fun
  | [d1, d2, d3, d4] => { results := [.lit (.bool true)], args := [d1, d2, d3, d4] }
  | _ => none }
def dringPlacesRow : OpenClaim := { program := "ytnokmgclkediiaa", sum := "5ef12f2e3ceb234a928e3b51db773be71988a52330792a3ffd9869a4e9fb2edf", func := "livery/liverylaw15.DringPlaces", spec := "dringPlaces", unfollowed := true, recurses := true, apart := false }
def DringPlacesSaid : Prop := dringPlacesRow.holds Try.pinned (OpenSpec.ofChange dringPlacesSpec)

/-- ITS FALSE NEIGHBOUR: 'it returns false'. Refute it at one input. -/
def dringPlacesWrong : ChangeSpec := { name := "dringPlaces", fn := fun _ => fun
  | [d1, d2, d3, d4] => { results := [.lit (.bool false)], args := [d1, d2, d3, d4] }
  | _ => none }
def DringPlacesWrongFalsely : Prop := dringPlacesRow.holds Try.pinned (OpenSpec.ofChange dringPlacesWrong)

/-- 'liverylaw15.DringNtts': WHATEVER THE INPUT: true; the input reads as it did. -/
def dringNttsSpec : ChangeSpec := { name := "dringNtts", fn := fun _ => fun
  | [d1, d2] => { results := [.lit (.bool true)], args := [d1, d2] }
  | _ => none }
def dringNttsRow : OpenClaim := { program := "ytnokmgclkediiaa", sum := "5ef12f2e3ceb234a928e3b51db773be71988a52330792a3ffd9869a4e9fb2edf", func := "livery/liverylaw15.DringNtts", spec := "dringNtts", unfollowed := true, recurses := true, apart := false }
def DringNttsSaid : Prop := dringNttsRow.holds Try.pinned (OpenSpec.ofChange dringNttsSpec)

/-- ITS FALSE NEIGHBOUR: 'it returns false'. Refute it at one input. -/
def dringNttsWrong : ChangeSpec := { name := "dringNtts", fn := fun _ => fun
  | [d1, d2] => { results := [.lit (.bool false)], args := [d1, d2] }
  | _ => none }
def DringNttsWrongFalsely : Prop := dringNttsRow.holds Try.pinned (OpenSpec.ofChange dringNttsWrong)

/-- 'liverylaw15.DringTurns': WHATEVER THE INPUT: true; the input reads as it did. -/
def dringTurnsSpec : ChangeSpec := { name := "dringTurns", fn := fun _ => fun
  | [d1, d2] => { results := [.lit (.bool true)], args := [d1, d2] }
  | _ => none }
def dringTurnsRow : OpenClaim := { program := "ytnokmgclkediiaa", sum := "5ef12f2e3ceb234a928e3b51db773be71988a52330792a3ffd9869a4e9fb2edf", func := "livery/liverylaw15.DringTurns", spec := "dringTurns", unfollowed := true, recurses := true, apart := false }
def DringTurnsSaid : Prop := dringTurnsRow.holds Try.pinned (OpenSpec.ofChange dringTurnsSpec)

/-- ITS FALSE NEIGHBOUR: 'it returns false'. Refute it at one input. -/
def dringTurnsWrong : ChangeSpec := { name := "dringTurns", fn := fun _ => fun
  | [d1, d2] => { results := [.lit (.bool false)], args := [d1, d2] }
  | _ => none }
def DringTurnsWrongFalsely : Prop := dringTurnsRow.holds Try.pinned (OpenSpec.ofChange dringTurnsWrong)

/-- 'liverylaw15.DringSums': WHATEVER THE INPUT: true; the input reads as it did. -/
def dringSumsSpec : ChangeSpec := { name := "dringSums", fn := fun _ => fun
  | [d1, d2] => { results := [.lit (.bool true)], args := [d1, d2] }
  | _ => none }
def dringSumsRow : OpenClaim := { program := "ytnokmgclkediiaa", sum := "5ef12f2e3ceb234a928e3b51db773be71988a52330792a3ffd9869a4e9fb2edf", func := "livery/liverylaw15.DringSums", spec := "dringSums", unfollowed := true, recurses := true, apart := false }
def DringSumsSaid : Prop := dringSumsRow.holds Try.pinned (OpenSpec.ofChange dringSumsSpec)

/-- ITS FALSE NEIGHBOUR: 'it returns false'. Refute it at one input. -/
def dringSumsWrong : ChangeSpec := { name := "dringSums", fn := fun _ => fun
  | [d1, d2] => { results := [.lit (.bool false)], args := [d1, d2] }
  | _ => none }
def DringSumsWrongFalsely : Prop := dringSumsRow.holds Try.pinned (OpenSpec.ofChange dringSumsWrong)

/-- 'liverylaw15.DringSmall': WHATEVER THE INPUT: true; the input reads as it did. -/
def dringSmallSpec : ChangeSpec := { name := "dringSmall", fn := fun _ => fun
  | [d] => { results := [.lit (.bool true)], args := [d] }
  | _ => none }
def dringSmallRow : OpenClaim := { program := "ytnokmgclkediiaa", sum := "5ef12f2e3ceb234a928e3b51db773be71988a52330792a3ffd9869a4e9fb2edf", func := "livery/liverylaw15.DringSmall", spec := "dringSmall", unfollowed := true, recurses := true, apart := false }
def DringSmallSaid : Prop := dringSmallRow.holds Try.pinned (OpenSpec.ofChange dringSmallSpec)

/-- ITS FALSE NEIGHBOUR: 'it returns false'. Refute it at one input. -/
def dringSmallWrong : ChangeSpec := { name := "dringSmall", fn := fun _ => fun
  | [d] => { results := [.lit (.bool false)], args := [d] }
  | _ => none }
def DringSmallWrongFalsely : Prop := dringSmallRow.holds Try.pinned (OpenSpec.ofChange dringSmallWrong)

/-- 'liverylaw15.DringSamples': WHATEVER THE INPUT: true; the input reads as it did. -/
def dringSamplesSpec : ChangeSpec := { name := "dringSamples", fn := fun _ => fun
  | [d1, d2] => { results := [.lit (.bool true)], args := [d1, d2] }
  | _ => none }
def dringSamplesRow : OpenClaim := { program := "ytnokmgclkediiaa", sum := "5ef12f2e3ceb234a928e3b51db773be71988a52330792a3ffd9869a4e9fb2edf", func := "livery/liverylaw15.DringSamples", spec := "dringSamples", unfollowed := true, recurses := true, apart := false }
def DringSamplesSaid : Prop := dringSamplesRow.holds Try.pinned (OpenSpec.ofChange dringSamplesSpec)

/-- ITS FALSE NEIGHBOUR: 'it returns false'. Refute it at one input. -/
def dringSamplesWrong : ChangeSpec := { name := "dringSamples", fn := fun _ => fun
  | [d1, d2] => { results := [.lit (.bool false)], args := [d1, d2] }
  | _ => none }
def DringSamplesWrongFalsely : Prop := dringSamplesRow.holds Try.pinned (OpenSpec.ofChange dringSamplesWrong)

/- THE SECOND FORM. 'bulk': how many values and letters a reading holds, each counted each time it is reached (what is shared counts as often as it is met; a slice's spare places count too). A statement '..UptoSaid' is the law's where the arguments, and the package variables that the reading takes, are together of bulk at most 1048576: NARROWER than '..Said'. Prove '..Said' where nothing that the law and all that it calls make is longer than what came in: it says more and counts as full. Else prove '..UptoSaid'. A law counts once. -/
mutual
def uptoBulk {H : Type} : DataW H → Nat
  | .lit (.string bytes) => bytes.length + 1
  | .lit _ => 1
  | .nil => 1
  | .ptr d => uptoBulk d + 1
  | .slice elems spare => uptoBulkAll elems + uptoBulkAll spare + 1
  | .agg parts => uptoBulkAll parts + 1
  | .iface _ d => uptoBulk d + 1
  | .map entries => uptoBulkEntries entries + 1
  | .held _ => 1
def uptoBulkAll {H : Type} : List (DataW H) → Nat
  | [] => 0
  | d :: r => uptoBulk d + uptoBulkAll r
def uptoBulkEntries {H : Type} : List (Lit × DataW H) → Nat
  | [] => 0
  | x :: r => uptoBulkEntry x + uptoBulkEntries r
def uptoBulkEntry {H : Type} : Lit × DataW H → Nat
  | (.string bytes, d) => bytes.length + uptoBulk d + 1
  | (_, d) => uptoBulk d + 1
 end
def uptoSmall : (H : Type) → List (DataW H) → Bool := fun _ ds => decide (uptoBulkAll ds ≤ 1048576)
def OpenSpec.upto (s : _root_.Go.ChangeSpec) : _root_.Go.OpenSpec := { _root_.Go.OpenSpec.ofChange s with cond := some uptoSmall }

/-- 'liverylaw15.DringRounds', WHERE WHAT IT READS IS OF BULK AT MOST 1048576: true; the input reads as it did. -/
def dringRoundsUptoRow : OpenClaim := { program := "ytnokmgclkediiaa", sum := "5ef12f2e3ceb234a928e3b51db773be71988a52330792a3ffd9869a4e9fb2edf", func := "livery/liverylaw15.DringRounds", spec := "dringRounds", unfollowed := true, recurses := true, apart := false, narrowed := true }
def DringRoundsUptoSaid : Prop := dringRoundsUptoRow.holds Try.pinned (OpenSpec.upto dringRoundsSpec)

/-- 'liverylaw15.DringParts', WHERE WHAT IT READS IS OF BULK AT MOST 1048576: true; the input reads as it did. -/
def dringPartsUptoRow : OpenClaim := { program := "ytnokmgclkediiaa", sum := "5ef12f2e3ceb234a928e3b51db773be71988a52330792a3ffd9869a4e9fb2edf", func := "livery/liverylaw15.DringParts", spec := "dringParts", unfollowed := true, recurses := true, apart := false, narrowed := true }
def DringPartsUptoSaid : Prop := dringPartsUptoRow.holds Try.pinned (OpenSpec.upto dringPartsSpec)

/-- 'liverylaw15.DringHints', WHERE WHAT IT READS IS OF BULK AT MOST 1048576: true; the input reads as it did. -/
def dringHintsUptoRow : OpenClaim := { program := "ytnokmgclkediiaa", sum := "5ef12f2e3ceb234a928e3b51db773be71988a52330792a3ffd9869a4e9fb2edf", func := "livery/liverylaw15.DringHints", spec := "dringHints", unfollowed := true, recurses := true, apart := false, narrowed := true }
def DringHintsUptoSaid : Prop := dringHintsUptoRow.holds Try.pinned (OpenSpec.upto dringHintsSpec)

/-- 'liverylaw15.DringMends', WHERE WHAT IT READS IS OF BULK AT MOST 1048576: true; the input reads as it did. -/
def dringMendsUptoRow : OpenClaim := { program := "ytnokmgclkediiaa", sum := "5ef12f2e3ceb234a928e3b51db773be71988a52330792a3ffd9869a4e9fb2edf", func := "livery/liverylaw15.DringMends", spec := "dringMends", unfollowed := true, recurses := true, apart := false, narrowed := true }
def DringMendsUptoSaid : Prop := dringMendsUptoRow.holds Try.pinned (OpenSpec.upto dringMendsSpec)

/-- 'liverylaw15.DringPlaces', WHERE WHAT IT READS IS OF BULK AT MOST 1048576: true; the input reads as it did. -/
def dringPlacesUptoRow : OpenClaim := { program := "ytnokmgclkediiaa", sum := "5ef12f2e3ceb234a928e3b51db773be71988a52330792a3ffd9869a4e9fb2edf", func := "livery/liverylaw15.DringPlaces", spec := "dringPlaces", unfollowed := true, recurses := true, apart := false, narrowed := true }
def DringPlacesUptoSaid : Prop := dringPlacesUptoRow.holds Try.pinned (OpenSpec.upto dringPlacesSpec)

/-- 'liverylaw15.DringNtts', WHERE WHAT IT READS IS OF BULK AT MOST 1048576: true; the input reads as it did. -/
def dringNttsUptoRow : OpenClaim := { program := "ytnokmgclkediiaa", sum := "5ef12f2e3ceb234a928e3b51db773be71988a52330792a3ffd9869a4e9fb2edf", func := "livery/liverylaw15.DringNtts", spec := "dringNtts", unfollowed := true, recurses := true, apart := false, narrowed := true }
def DringNttsUptoSaid : Prop := dringNttsUptoRow.holds Try.pinned (OpenSpec.upto dringNttsSpec)

/-- 'liverylaw15.DringTurns', WHERE WHAT IT READS IS OF BULK AT MOST 1048576: true; the input reads as it did. -/
def dringTurnsUptoRow : OpenClaim := { program := "ytnokmgclkediiaa", sum := "5ef12f2e3ceb234a928e3b51db773be71988a52330792a3ffd9869a4e9fb2edf", func := "livery/liverylaw15.DringTurns", spec := "dringTurns", unfollowed := true, recurses := true, apart := false, narrowed := true }
def DringTurnsUptoSaid : Prop := dringTurnsUptoRow.holds Try.pinned (OpenSpec.upto dringTurnsSpec)

/-- 'liverylaw15.DringSums', WHERE WHAT IT READS IS OF BULK AT MOST 1048576: true; the input reads as it did. -/
def dringSumsUptoRow : OpenClaim := { program := "ytnokmgclkediiaa", sum := "5ef12f2e3ceb234a928e3b51db773be71988a52330792a3ffd9869a4e9fb2edf", func := "livery/liverylaw15.DringSums", spec := "dringSums", unfollowed := true, recurses := true, apart := false, narrowed := true }
def DringSumsUptoSaid : Prop := dringSumsUptoRow.holds Try.pinned (OpenSpec.upto dringSumsSpec)

/-- 'liverylaw15.DringSmall', WHERE WHAT IT READS IS OF BULK AT MOST 1048576: true; the input reads as it did. -/
def dringSmallUptoRow : OpenClaim := { program := "ytnokmgclkediiaa", sum := "5ef12f2e3ceb234a928e3b51db773be71988a52330792a3ffd9869a4e9fb2edf", func := "livery/liverylaw15.DringSmall", spec := "dringSmall", unfollowed := true, recurses := true, apart := false, narrowed := true }
def DringSmallUptoSaid : Prop := dringSmallUptoRow.holds Try.pinned (OpenSpec.upto dringSmallSpec)

/-- 'liverylaw15.DringSamples', WHERE WHAT IT READS IS OF BULK AT MOST 1048576: true; the input reads as it did. -/
def dringSamplesUptoRow : OpenClaim := { program := "ytnokmgclkediiaa", sum := "5ef12f2e3ceb234a928e3b51db773be71988a52330792a3ffd9869a4e9fb2edf", func := "livery/liverylaw15.DringSamples", spec := "dringSamples", unfollowed := true, recurses := true, apart := false, narrowed := true }
def DringSamplesUptoSaid : Prop := dringSamplesUptoRow.holds Try.pinned (OpenSpec.upto dringSamplesSpec)

end Rows
end Go.Proofs.Ytnokmgclkediiaa
