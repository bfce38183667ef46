/- A part of the proof: MsgQ19, MsgW6. -/
import Derived.Test.YtdaompnhkfdlgaaMsgG
set_option linter.unusedVariables false
namespace Go.Ax.TryP
open Go.Proofs
theorem a9C : ∀ x r, a21 x = some r → ∃ N, C9 N x = some r := by
 refine j9 (ks := B9) (rs := a0i) fun x hw hq => ?_
 obtain ⟨(b : List Int), u⟩ := x
 obtain ⟨_, hb⟩ : b.length ≤ maxLen ∧ bytes b := Q2.1 hw.1
 refine ⟨b.length + 1, ?_⟩
 show C9 (b.length + 1) (b, u) = some true
 unfold C9
 dsimp only
 rw [c0e, Option.bind_some, if_neg (by simp)]
 by_cases hl : b.length > 30000
 ·rw [if_pos (by omega), Option.bind_some]; rfl
 have hl2 : b.length ≤ 1000000 := by omega
 have hM := b7R
 have hj : C7 ([b], ()) = some b := by
  have hr : b1a [b] := ⟨by simp; omega, fun z hz => by rw [List.mem_singleton.1 hz]; exact ⟨by omega, hb⟩⟩
  have := b5r (l := [b]) ⟨by simp, by simp only [List.flatten_cons, List.flatten_nil, List.append_nil]; omega⟩ hr
  rw [this]; simp
 rw [if_neg (by omega), hj, Option.bind_some, c0f hb hl2, Option.bind_some, b8R hb hl2, Option.bind_some, a5d ⟨by omega, hb⟩ ⟨by omega, hb⟩, Option.bind_some, if_neg (by simp)]
 refine (K5 (F := w4 (b.length + 1)) (s := fun i => (b.length, (w5 b).2, (w5 b).2, (b.length : Int), (i : Int), b.length, part (fun j => (b.getD j 0 + 1) % 256) i b, (w5 b).1.1, (w5 b).1.2.1, (w5 b).1.2.2.1, (w5 b).1.2.2.2.1, (w5 b).1.2.2.2.2.1, (w5 b).1.2.2.2.2.2.1, (w5 b).1.2.2.2.2.2.2.1, (w5 b).1.2.2.2.2.2.2.2.1, (w5 b).1.2.2.2.2.2.2.2.2.1, (List.length (w5 b).1.2.2.2.2.2.2.2.2.2.1), (List.length (w5 b).1.2.2.2.2.2.2.2.2.2.2.1), (List.length (w5 b).1.2.2.2.2.2.2.2.2.2.2.2.1), (w5 b).1.1, (w5 b).1.2.1, (w5 b).1.2.2.1, (w5 b).1.2.2.2.1, (w5 b).1.2.2.2.2.1, (w5 b).1.2.2.2.2.2.1, (w5 b).1.2.2.2.2.2.2.1, (w5 b).1.2.2.2.2.2.2.2.1, (w5 b).1.2.2.2.2.2.2.2.2.1, (List.length (w5 b).1.2.2.2.2.2.2.2.2.2.1), (List.length (w5 b).1.2.2.2.2.2.2.2.2.2.2.1), (List.length (w5 b).1.2.2.2.2.2.2.2.2.2.2.2.1), (List.length (w5 b).1.2.2.2.2.2.2.2.2.2.1), (w5 b).1.2.2.2.2.2.2.2.2.2.1, (List.length (w5 b).1.2.2.2.2.2.2.2.2.2.2.1), (w5 b).1.2.2.2.2.2.2.2.2.2.2.1, (List.length (w5 b).1.2.2.2.2.2.2.2.2.2.2.2.1), (w5 b).1.2.2.2.2.2.2.2.2.2.2.2.1, (List.length (w5 b).1.2.2.2.2.2.2.2.2.2.1), (w5 b).1.2.2.2.2.2.2.2.2.2.1, (List.length (w5 b).1.2.2.2.2.2.2.2.2.2.2.1), (w5 b).1.2.2.2.2.2.2.2.2.2.2.1, (List.length (w5 b).1.2.2.2.2.2.2.2.2.2.2.2.1), (w5 b).1.2.2.2.2.2.2.2.2.2.2.2.1, ()))
  (y := ((w5 b).2, (w5 b).2, (w5 b).1.1, (w5 b).1.2.1, (w5 b).1.2.2.1, (w5 b).1.2.2.2.1, (w5 b).1.2.2.2.2.1, (w5 b).1.2.2.2.2.2.1, (w5 b).1.2.2.2.2.2.2.1, (w5 b).1.2.2.2.2.2.2.2.1, (w5 b).1.2.2.2.2.2.2.2.2.1, (List.length (w5 b).1.2.2.2.2.2.2.2.2.2.1), (List.length (w5 b).1.2.2.2.2.2.2.2.2.2.2.1), (List.length (w5 b).1.2.2.2.2.2.2.2.2.2.2.2.1), (w5 b).1.1, (w5 b).1.2.1, (w5 b).1.2.2.1, (w5 b).1.2.2.2.1, (w5 b).1.2.2.2.2.1, (w5 b).1.2.2.2.2.2.1, (w5 b).1.2.2.2.2.2.2.1, (w5 b).1.2.2.2.2.2.2.2.1, (w5 b).1.2.2.2.2.2.2.2.2.1, (List.length (w5 b).1.2.2.2.2.2.2.2.2.2.1), (List.length (w5 b).1.2.2.2.2.2.2.2.2.2.2.1), (List.length (w5 b).1.2.2.2.2.2.2.2.2.2.2.2.1), (List.length (w5 b).1.2.2.2.2.2.2.2.2.2.1), (w5 b).1.2.2.2.2.2.2.2.2.2.1, (List.length (w5 b).1.2.2.2.2.2.2.2.2.2.2.1), (w5 b).1.2.2.2.2.2.2.2.2.2.2.1, (List.length (w5 b).1.2.2.2.2.2.2.2.2.2.2.2.1), (w5 b).1.2.2.2.2.2.2.2.2.2.2.2.1, (List.length (w5 b).1.2.2.2.2.2.2.2.2.2.1), (w5 b).1.2.2.2.2.2.2.2.2.2.1, (List.length (w5 b).1.2.2.2.2.2.2.2.2.2.2.1), (w5 b).1.2.2.2.2.2.2.2.2.2.2.1, (List.length (w5 b).1.2.2.2.2.2.2.2.2.2.2.2.1), (w5 b).1.2.2.2.2.2.2.2.2.2.2.2.1, ())) b.length ?_ ?_ ?_ _ (by omega)).trans ?_
 ·rw [b73]; rfl
 ·intro i hi kn
  have hz := a6m hb i
  unfold w4
  dsimp only
  rw [if_pos (by omega), if_pos (by omega), if_pos (by omega), Int.toNat_natCast, if_pos (by omega), if_pos (by omega), if_pos (by omega), if_pos (by omega), f7 (by omega) (by omega), b71 (Nat.le_refl i), a5a,
   b72 (h := fun j => (b.getD j 0 + 1) % 256) hi rfl]
  rfl
 ·intro kn
  unfold w4
  dsimp only
  rw [if_neg (by omega)]
 ·have hc : Y3 (w5 b).1 := c0n hb
  have e : b2k (w5 b).1 (w5 b).1 = true := b8i _
  refine (congrArg (fun o => Option.bind o _) (show _ = some (b2k (w5 b).1 (w5 b).1) from b6a hc hc)).trans ?_
  rw [Option.bind_some, if_pos e]
  simp
end Go.Ax.TryP
namespace Go.Ax.TryP
open Go.Proofs
theorem a0z : i0 Try.prog 70 y0 := a3s (a2D a7r) a51
theorem b0L : i0 Try.prog 69 a0A := a6Z (a5X) b0G
theorem Q0 : i0 Try.prog 59 u9 := a1y (a0T a0z b0L) a3x
theorem a48 : i0 Try.prog 60 I2 := a2E (a19 Q0 a0z) a47
theorem b4Y : i0 Try.prog 33 a4A := b0x (a9v a7s Q0 a48 b2j) b4N
noncomputable abbrev a8n : Sig := ⟨[.sl b8], [.bool], a21⟩
theorem s_law21_MsgGets : i0 Try.prog 8 a8n := a5C (a4T b3O a7r b8e b4Y a2i b3Y) a9C
end Go.Ax.TryP
