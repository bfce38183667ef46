/- A part of the proof: MsgS3, MsgP3, MsgQ11, MsgQ12, MsgQ13, MsgW3. -/
import Derived.Test.YtdaompnhkfdlgaaMsgB
namespace Go.Ax.TryP
open Go.Proofs
end Go.Ax.TryP
set_option linter.unusedVariables false
namespace Go.Ax.TryP
open Go.Proofs
end Go.Ax.TryP
set_option linter.unusedVariables false
set_option linter.unusedSimpArgs false
namespace Go.Ax.TryP
open Go.Proofs
end Go.Ax.TryP
set_option linter.unusedVariables false
set_option linter.unusedSimpArgs false
namespace Go.Ax.TryP
open Go.Proofs
end Go.Ax.TryP
set_option linter.unusedVariables false
set_option linter.unusedSimpArgs false
namespace Go.Ax.TryP
open Go.Proofs
structure Rs' (fr to tid key lo hi pt pts : Int) (d ce sg : List Int) : Prop where
 b4 : G6 (IntKind.u64.wrap tid, 4, ()) = some (D1 tid 4)
 b5 : G6 (IntKind.u64.wrap key, 4, ()) = some (D1 key 4)
 b6 : G6 (lo, 8, ()) = some (D1 lo 8)
 b7 : G6 (hi, 8, ()) = some (D1 hi 8)
 b8 : G6 (IntKind.u64.wrap pt, 2, ()) = some (D1 pt 2)
 b9 : G6 (IntKind.u64.wrap pts, 2, ()) = some (D1 pts 2)
 t10 : a1p (d, ()) = some (D1 (d.length : Int) 2 ++ d)
 t11 : a1p (ce, ()) = some (D1 (ce.length : Int) 2 ++ ce)
 t12 : a1p (sg, ()) = some (D1 (sg.length : Int) 2 ++ sg)
 l10 : d.length ≤ 60000
 l11 : ce.length ≤ 60000
 l12 : sg.length ≤ 60000
 y10 : bytes d
 y11 : bytes ce
 y12 : bytes sg
theorem b6U {c : Ms} (h : a19 c) : (b1a c).1.length ≤ 300000 ∧ bytes (b1a c).1 := by
 unfold b1a
 split
 ·rename_i hc
  exact a7l h (b8r (a8C hc)) true
 ·exact ⟨by simp, V4⟩
end Go.Ax.TryP
namespace Go.Ax.TryP
open Go.Proofs
noncomputable abbrev a1f : Sig := ⟨[.sls b8], [.sl b8], v4⟩
theorem b0Y : i1 Try.prog 31 a1f := a6R (a5u) b0A
end Go.Ax.TryP
