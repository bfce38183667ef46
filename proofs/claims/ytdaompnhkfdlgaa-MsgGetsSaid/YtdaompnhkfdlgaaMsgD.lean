/- A part of the proof: MsgQ14, MsgW4. -/
import Derived.Test.YtdaompnhkfdlgaaMsgC
set_option linter.unusedVariables false
set_option linter.unusedSimpArgs false
namespace Go.Ax.TryP
open Go.Proofs
abbrev T8 := Int × Int × Int × Int × Int × Int × Int × Int × Int × Int × Int × List Int × List Int × List Int × Int × Int × Int × Int × Int × Int × Int × Int × Int × Nat × Nat × Nat × Nat × Nat × Nat × Nat × List Int × Nat × List Int × Nat × List Int × Nat × List Int × Nat × List Int × Nat × List Int × Unit
abbrev Y8 := Int × Int × Int × Int × Int × Int × Int × Int × Int × List Int × List Int × List Int × Int × Int × Int × Int × Int × Int × Int × Int × Int × Nat × Nat × Nat × Nat × List Int × Nat × List Int × Nat × List Int × Unit
def k8 (x : T8) : Y8 := (x.2.2.1, x.2.2.2.1, x.2.2.2.2.1, x.2.2.2.2.2.1, x.2.2.2.2.2.2.1, x.2.2.2.2.2.2.2.1, x.2.2.2.2.2.2.2.2.1, x.2.2.2.2.2.2.2.2.2.1, x.2.2.2.2.2.2.2.2.2.2.1, x.2.2.2.2.2.2.2.2.2.2.2.1, x.2.2.2.2.2.2.2.2.2.2.2.2.1, x.2.2.2.2.2.2.2.2.2.2.2.2.2.1, x.2.2.2.2.2.2.2.2.2.2.2.2.2.2.1, x.2.2.2.2.2.2.2.2.2.2.2.2.2.2.2.1, x.2.2.2.2.2.2.2.2.2.2.2.2.2.2.2.2.1, x.2.2.2.2.2.2.2.2.2.2.2.2.2.2.2.2.2.1, x.2.2.2.2.2.2.2.2.2.2.2.2.2.2.2.2.2.2.1, x.2.2.2.2.2.2.2.2.2.2.2.2.2.2.2.2.2.2.2.1, x.2.2.2.2.2.2.2.2.2.2.2.2.2.2.2.2.2.2.2.2.1, x.2.2.2.2.2.2.2.2.2.2.2.2.2.2.2.2.2.2.2.2.2.1, x.2.2.2.2.2.2.2.2.2.2.2.2.2.2.2.2.2.2.2.2.2.2.1, x.2.2.2.2.2.2.2.2.2.2.2.2.2.2.2.2.2.2.2.2.2.2.2.1, x.2.2.2.2.2.2.2.2.2.2.2.2.2.2.2.2.2.2.2.2.2.2.2.2.1, x.2.2.2.2.2.2.2.2.2.2.2.2.2.2.2.2.2.2.2.2.2.2.2.2.2.1, x.2.2.2.2.2.2.2.2.2.2.2.2.2.2.2.2.2.2.2.2.2.2.2.2.2.2.2.2.2.1, x.2.2.2.2.2.2.2.2.2.2.2.2.2.2.2.2.2.2.2.2.2.2.2.2.2.2.2.2.2.2.1, x.2.2.2.2.2.2.2.2.2.2.2.2.2.2.2.2.2.2.2.2.2.2.2.2.2.2.2.2.2.2.2.1, x.2.2.2.2.2.2.2.2.2.2.2.2.2.2.2.2.2.2.2.2.2.2.2.2.2.2.2.2.2.2.2.2.1, x.2.2.2.2.2.2.2.2.2.2.2.2.2.2.2.2.2.2.2.2.2.2.2.2.2.2.2.2.2.2.2.2.2.1, x.2.2.2.2.2.2.2.2.2.2.2.2.2.2.2.2.2.2.2.2.2.2.2.2.2.2.2.2.2.2.2.2.2.2.1, ())
theorem b3C : ∀ x r, a0e x = some r → ∃ N, P9 N x = some r := by
 refine j9 (ks := E1) (rs := X3) fun x hw hq => ⟨0, ?_⟩
 obtain ⟨(c : Ms), (d : Ms), u⟩ := x
 obtain ⟨_, _, _, _, _, _, _, _, _, h10, h11, h12⟩ := a4i.1 hw.1
 obtain ⟨_, _, _, _, _, _, _, _, _, k10, k11, k12⟩ := a4i.1 hw.2.1
 show P9 0 (c, d, u) = some (b2k c d)
 unfold P9 b2k
 dsimp only
 rw [a5d h10 k10, a5d h11 k11, a5d h12 k12]
 simp only [Option.bind_some]
 by_cases e1 : c.1 = d.1
 rotate_left
 ·rw [if_neg e1, decide_eq_false e1]; simp
 rw [if_pos e1, decide_eq_true e1]
 by_cases e2 : c.2.1 = d.2.1
 rotate_left
 ·rw [if_neg e2, decide_eq_false e2]; simp
 rw [if_pos e2, decide_eq_true e2]
 by_cases e3 : c.2.2.1 = d.2.2.1
 rotate_left
 ·rw [if_neg e3, decide_eq_false e3]; simp
 rw [if_pos e3, decide_eq_true e3]
 by_cases e4 : c.2.2.2.1 = d.2.2.2.1
 rotate_left
 ·rw [if_neg e4, decide_eq_false e4]; simp
 rw [if_pos e4, decide_eq_true e4]
 by_cases e5 : c.2.2.2.2.1 = d.2.2.2.2.1
 rotate_left
 ·rw [if_neg e5, decide_eq_false e5]; simp
 rw [if_pos e5, decide_eq_true e5]
 by_cases e6 : c.2.2.2.2.2.1 = d.2.2.2.2.2.1
 rotate_left
 ·rw [if_neg (fun h => e6 (b8u.1 h).1), decide_eq_false e6]; simp
 by_cases e7 : c.2.2.2.2.2.2.1 = d.2.2.2.2.2.2.1
 rotate_left
 ·rw [if_neg (fun h => e7 (b8u.1 h).2), decide_eq_false e7]; simp
 rw [if_pos (b8u.2 ⟨e6, e7⟩), decide_eq_true e6, decide_eq_true e7]
 by_cases e8 : c.2.2.2.2.2.2.2.1 = d.2.2.2.2.2.2.2.1
 rotate_left
 ·rw [if_neg e8, decide_eq_false e8]; simp
 rw [if_pos e8, decide_eq_true e8]
 by_cases e9 : c.2.2.2.2.2.2.2.2.1 = d.2.2.2.2.2.2.2.2.1
 rotate_left
 ·rw [if_neg e9, decide_eq_false e9]; simp
 rw [if_pos e9, decide_eq_true e9]
 cases decide (c.2.2.2.2.2.2.2.2.2.1 = d.2.2.2.2.2.2.2.2.2.1) with
 | false => rfl
 | true =>
 cases decide (c.2.2.2.2.2.2.2.2.2.2.1 = d.2.2.2.2.2.2.2.2.2.2.1) with
 | false => rfl
 | true =>
 cases decide (c.2.2.2.2.2.2.2.2.2.2.2.1 = d.2.2.2.2.2.2.2.2.2.2.2.1) <;> rfl
theorem b6a {c d : Ms} (hc : Y3 c) (hd : Y3 d) : a0e (c, d, ()) = some (b2k c d) :=
 j6 (ks := E1) (rs := X3) (x := (c, d, ())) ⟨a4i.2 hc, a4i.2 hd, trivial⟩ trivial
end Go.Ax.TryP
namespace Go.Ax.TryP
open Go.Proofs
noncomputable abbrev a2S : Sig := ⟨[.cat [.int .i64, .int .i64, .int .i64, .int .u32, .int .u32, .int .u64, .int .u64, .int .i64, .int .i64, .sl b8, .sl b8, .sl b8], .cat [.int .i64, .int .i64, .int .i64, .int .u32, .int .u32, .int .u64, .int .u64, .int .i64, .int .i64, .sl b8, .sl b8, .sl b8]], [.bool], a0e⟩
theorem b3Y : i0 Try.prog 28 a2S := a9x (a76 a2i) b3C
end Go.Ax.TryP
