/- A part of the proof: DringW1. -/
import Derived.Test.YtnokmgclkediiaaDringQ1
/-! Printed by program (wires.py): the functions keep their signatures. -/
namespace Go.Ax.TryP
theorem s_dring_below : SigOk Go.Proofs.Try.prog 59 ⟨[.int .i64], [.int .i32], g_dring_below⟩ := p_dring_below_ok q_dring_below
theorem s_dring_Reduce_1 : SigOk Go.Proofs.Try.prog 58 ⟨[.int .i32], [.int .i32], g_dring_Reduce_1⟩ := p_dring_Reduce_1_ok s_dring_below q_dring_Reduce_1
theorem s_dring_each__dring_Reduce_1 : SigOk Go.Proofs.Try.prog 57 ⟨[.xs (.int .i32) 256, .fnc 58], [.xs (.int .i32) 256], g_dring_each__dring_Reduce_1⟩ := p_dring_each__dring_Reduce_1_ok s_dring_Reduce_1 q_dring_each__dring_Reduce_1
theorem s_dring_Reduce : SigOk Go.Proofs.Try.prog 18 ⟨[.xs (.int .i32) 256], [.xs (.int .i32) 256], g_dring_Reduce⟩ := p_dring_Reduce_ok s_dring_each__dring_Reduce_1 q_dring_Reduce
theorem s_dring_near : SigOk Go.Proofs.Try.prog 55 ⟨[.int .i32, .int .i32], [.int .i32], g_dring_near⟩ := p_dring_near_ok q_dring_near
theorem s_dring_parts : SigOk Go.Proofs.Try.prog 56 ⟨[.int .i32], [.int .i32, .int .i32], g_dring_parts⟩ := p_dring_parts_ok s_dring_below s_dring_near q_dring_parts
theorem s_dring_Power2Round : SigOk Go.Proofs.Try.prog 13 ⟨[.xs (.int .i32) 256], [.xs (.int .i32) 256, .xs (.int .i32) 256], g_dring_Power2Round⟩ := p_dring_Power2Round_ok s_dring_Reduce s_dring_near q_dring_Power2Round
theorem s_dring_Decompose : SigOk Go.Proofs.Try.prog 15 ⟨[.xs (.int .i32) 256], [.xs (.int .i32) 256, .xs (.int .i32) 256], g_dring_Decompose⟩ := p_dring_Decompose_ok s_dring_parts q_dring_Decompose
theorem s_ref15_mod : SigOk Go.Proofs.Try.prog 66 ⟨[.int .i64], [.int .i64], g_ref15_mod⟩ := p_ref15_mod_ok q_ref15_mod
theorem s_ref15_Reduce : SigOk Go.Proofs.Try.prog 40 ⟨[.xs (.int .i32) 256], [.xs (.int .i32) 256], g_ref15_Reduce⟩ := p_ref15_Reduce_ok s_ref15_mod q_ref15_Reduce
theorem s_ref15_Power2Round : SigOk Go.Proofs.Try.prog 14 ⟨[.xs (.int .i32) 256], [.xs (.int .i32) 256, .xs (.int .i32) 256], g_ref15_Power2Round⟩ := p_ref15_Power2Round_ok s_ref15_Reduce q_ref15_Power2Round
theorem s_ref15_Decompose : SigOk Go.Proofs.Try.prog 16 ⟨[.xs (.int .i32) 256], [.xs (.int .i32) 256, .xs (.int .i32) 256], g_ref15_Decompose⟩ := p_ref15_Decompose_ok s_ref15_Reduce q_ref15_Decompose
theorem s_law15_live : SigOk Go.Proofs.Try.prog 17 ⟨[], [.bool], g_law15_live⟩ := p_law15_live_ok s_dring_Decompose s_dring_Power2Round q_law15_live
theorem s_law15_DringRounds : SigOk Go.Proofs.Try.prog 3 ⟨[.xs (.int .i32) 256], [.bool], g_law15_DringRounds⟩ := p_law15_DringRounds_ok s_dring_Power2Round s_ref15_Power2Round s_dring_Decompose s_ref15_Decompose s_law15_live q_law15_DringRounds
end Go.Ax.TryP
