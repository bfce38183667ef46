/- A part of the proof: MsgS3, MsgP3, MsgQ11, MsgQ12, MsgQ13, MsgW3. -/
import Derived.Test.YtdaompnhkfdlgaaMsgB
namespace Go.Ax.TryP
open Go.Proofs
end Go.Ax.TryP
set_option linter.unusedVariables false
namespace Go.Ax.TryP
open Go.Proofs
end Go.Ax.TryP
set_option linter.unusedVariables false
set_option linter.unusedSimpArgs false
namespace Go.Ax.TryP
open Go.Proofs
end Go.Ax.TryP
set_option linter.unusedVariables false
set_option linter.unusedSimpArgs false
namespace Go.Ax.TryP
open Go.Proofs
end Go.Ax.TryP
set_option linter.unusedVariables false
set_option linter.unusedSimpArgs false
namespace Go.Ax.TryP
open Go.Proofs
structure Rs' (fr to tid key lo hi pt pts : Int) (d ce sg : List Int) : Prop where
 b4 : H6 (IntKind.u64.wrap tid, 4, ()) = some (D0 tid 4)
 b5 : H6 (IntKind.u64.wrap key, 4, ()) = some (D0 key 4)
 b6 : H6 (lo, 8, ()) = some (D0 lo 8)
 b7 : H6 (hi, 8, ()) = some (D0 hi 8)
 b8 : H6 (IntKind.u64.wrap pt, 2, ()) = some (D0 pt 2)
 b9 : H6 (IntKind.u64.wrap pts, 2, ()) = some (D0 pts 2)
 t10 : a1h (d, ()) = some (D0 (d.length : Int) 2 ++ d)
 t11 : a1h (ce, ()) = some (D0 (ce.length : Int) 2 ++ ce)
 t12 : a1h (sg, ()) = some (D0 (sg.length : Int) 2 ++ sg)
 l10 : d.length ≤ 60000
 l11 : ce.length ≤ 60000
 l12 : sg.length ≤ 60000
 y10 : bytes d
 y11 : bytes ce
 y12 : bytes sg
theorem b7T {c : Ms} (h : a0T c) : (b2p c).1.length ≤ 300000 ∧ bytes (b2p c).1 := by
 unfold b2p
 split
 ·rename_i hc
  exact a64 h (b7P (a8l hc)) true
 ·exact ⟨by simp, V5⟩
end Go.Ax.TryP
namespace Go.Ax.TryP
open Go.Proofs
end Go.Ax.TryP
