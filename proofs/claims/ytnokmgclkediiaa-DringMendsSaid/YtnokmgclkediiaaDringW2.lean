/- A part of the proof: DringW2. -/
import Derived.Test.YtnokmgclkediiaaDringQ3
/-! Printed by program (wires.py): the functions keep their signatures. -/
namespace Go.Ax.TryP
theorem s_dring_centred : SigOk Go.Proofs.Try.prog 67 ⟨[.int .i32], [.int .i32], g_dring_centred⟩ := p_dring_centred_ok s_dring_below q_dring_centred
theorem s_dring_each__dring_centred : SigOk Go.Proofs.Try.prog 57 ⟨[.xs (.int .i32) 256, .fnc 67], [.xs (.int .i32) 256], g_dring_each__dring_centred⟩ := p_dring_each__dring_centred_ok s_dring_centred q_dring_each__dring_centred
theorem s_dring_Center : SigOk Go.Proofs.Try.prog 41 ⟨[.xs (.int .i32) 256], [.xs (.int .i32) 256], g_dring_Center⟩ := p_dring_Center_ok s_dring_each__dring_centred q_dring_Center
theorem s_ref15_Center : SigOk Go.Proofs.Try.prog 42 ⟨[.xs (.int .i32) 256], [.xs (.int .i32) 256], g_ref15_Center⟩ := p_ref15_Center_ok s_ref15_Reduce q_ref15_Center
theorem s_dring_Norm : SigOk Go.Proofs.Try.prog 19 ⟨[.xs (.int .i32) 256], [.int .i32], g_dring_Norm⟩ := p_dring_Norm_ok s_dring_Center q_dring_Norm
theorem s_ref15_size : SigOk Go.Proofs.Try.prog 68 ⟨[.int .i32], [.int .i32], g_ref15_size⟩ := p_ref15_size_ok q_ref15_size
theorem s_ref15_Norm : SigOk Go.Proofs.Try.prog 43 ⟨[.xs (.int .i32) 256], [.int .i32], g_ref15_Norm⟩ := p_ref15_Norm_ok s_ref15_Center s_ref15_size q_ref15_Norm
theorem s_dring_Add : SigOk Go.Proofs.Try.prog 24 ⟨[.xs (.int .i32) 256, .xs (.int .i32) 256], [.xs (.int .i32) 256], g_dring_Add⟩ := p_dring_Add_ok s_dring_below q_dring_Add
theorem s_ref15_Add : SigOk Go.Proofs.Try.prog 44 ⟨[.xs (.int .i32) 256, .xs (.int .i32) 256], [.xs (.int .i32) 256], g_ref15_Add⟩ := p_ref15_Add_ok s_ref15_mod q_ref15_Add
theorem s_dring_Sub : SigOk Go.Proofs.Try.prog 39 ⟨[.xs (.int .i32) 256, .xs (.int .i32) 256], [.xs (.int .i32) 256], g_dring_Sub⟩ := p_dring_Sub_ok s_dring_below q_dring_Sub
theorem s_ref15_Sub : SigOk Go.Proofs.Try.prog 45 ⟨[.xs (.int .i32) 256, .xs (.int .i32) 256], [.xs (.int .i32) 256], g_ref15_Sub⟩ := p_ref15_Sub_ok s_ref15_mod q_ref15_Sub
theorem s_dring_MakeHint : SigOk Go.Proofs.Try.prog 20 ⟨[.xs (.int .i32) 256, .xs (.int .i32) 256], [.xs .bool 256, .int .i64], g_dring_MakeHint⟩ := p_dring_MakeHint_ok s_dring_Decompose s_dring_Add q_dring_MakeHint
theorem s_ref15_MakeHint : SigOk Go.Proofs.Try.prog 21 ⟨[.xs (.int .i32) 256, .xs (.int .i32) 256], [.xs .bool 256, .int .i64], g_ref15_MakeHint⟩ := p_ref15_MakeHint_ok s_ref15_Decompose s_ref15_Add q_ref15_MakeHint
theorem s_dring_UseHint : SigOk Go.Proofs.Try.prog 22 ⟨[.xs .bool 256, .xs (.int .i32) 256], [.xs (.int .i32) 256], g_dring_UseHint⟩ := p_dring_UseHint_ok s_dring_Decompose q_dring_UseHint
theorem s_ref15_UseHint : SigOk Go.Proofs.Try.prog 23 ⟨[.xs .bool 256, .xs (.int .i32) 256], [.xs (.int .i32) 256], g_ref15_UseHint⟩ := p_ref15_UseHint_ok s_ref15_Decompose q_ref15_UseHint
theorem s_law15_DringParts : SigOk Go.Proofs.Try.prog 4 ⟨[.xs (.int .i32) 256], [.bool], g_law15_DringParts⟩ := p_law15_DringParts_ok s_dring_Reduce s_dring_Power2Round s_dring_Decompose s_law15_live s_dring_Norm q_law15_DringParts
theorem s_law15_DringHints : SigOk Go.Proofs.Try.prog 5 ⟨[.xs (.int .i32) 256, .xs (.int .i32) 256, .xs .bool 256], [.bool], g_law15_DringHints⟩ := p_law15_DringHints_ok s_dring_MakeHint s_ref15_MakeHint s_law15_live s_dring_UseHint s_ref15_UseHint q_law15_DringHints
theorem s_law15_DringMends : SigOk Go.Proofs.Try.prog 6 ⟨[.xs (.int .i32) 256, .xs (.int .i32) 256], [.bool], g_law15_DringMends⟩ := p_law15_DringMends_ok s_law15_live s_dring_Norm s_dring_MakeHint s_dring_Add s_dring_Decompose s_dring_UseHint q_law15_DringMends
end Go.Ax.TryP
