/- A part of the proof: KemT, KemI, KrS, KrP, KrQ1. -/
import Derived.Test.YtplhlghciccaiaaAxD
import Derived.Test.YtplhlghciccaiaaProg
set_option linter.unusedVariables false
namespace Go.Ax.TryP
open Go.Proofs
abbrev U : TV := .one .any
abbrev V : HV := .any
abbrev b8 : CK := .int .u8
abbrev b16 : CK := .int .u16
theorem mix : Try.prog.follows .mixedOrders = true := by kernel_rfl
noncomputable def ty3 : TyI where
  td := .int .i64
  size := 1
  bytes := 8
  zero := [.xs (.int .i64) 1 [0]]
theorem ty3_ok : TyOk Try.prog 3 ty3 :=
  TyOk.of (f := Try.t3) (z := (Try.t3.zero).getD .nilIface) (cs := (zeroS ty3.zero).getD []) Try.underlying3 (by kernel_rfl) (by kernel_rfl) ⟨by kernel_rfl, by kernel_rfl⟩ (by kernel_rfl) (by kernel_rfl) (by kernel_rfl) (by kernel_rfl) (by kernel_rfl)
noncomputable def ty4 : TyI where
  td := .bool
  size := 1
  bytes := 1
  zero := [.xs .bool 1 [0]]
theorem ty4_ok : TyOk Try.prog 4 ty4 :=
  TyOk.of (f := Try.t4) (z := (Try.t4.zero).getD .nilIface) (cs := (zeroS ty4.zero).getD []) Try.underlying4 (by kernel_rfl) (by kernel_rfl) ⟨by kernel_rfl, by kernel_rfl⟩ (by kernel_rfl) (by kernel_rfl) (by kernel_rfl) (by kernel_rfl) (by kernel_rfl)
noncomputable def ty5 : TyI where
  td := .int .u8
  size := 1
  bytes := 1
  zero := [.xs b8 1 [0]]
theorem ty5_ok : TyOk Try.prog 5 ty5 :=
  TyOk.of (f := Try.t5) (z := (Try.t5.zero).getD .nilIface) (cs := (zeroS ty5.zero).getD []) Try.underlying5 (by kernel_rfl) (by kernel_rfl) ⟨by kernel_rfl, by kernel_rfl⟩ (by kernel_rfl) (by kernel_rfl) (by kernel_rfl) (by kernel_rfl) (by kernel_rfl)
noncomputable def ty9 : TyI where
  td := .str
  size := 1
  bytes := 16
  zero := [.one (.str (⟨#[]⟩ : ByteArray))]
theorem ty9_ok : TyOk Try.prog 9 ty9 :=
  TyOk.of (f := Try.t9) (z := (Try.t9.zero).getD .nilIface) (cs := (zeroS ty9.zero).getD []) Try.underlying9 (by kernel_rfl) (by kernel_rfl) ⟨by kernel_rfl, by kernel_rfl⟩ (by kernel_rfl) (by kernel_rfl) (by kernel_rfl) (by kernel_rfl) (by kernel_rfl)
noncomputable def ty22 : TyI where
  td := .arr 32 5
  size := 32
  bytes := 32
  zero := [.xs b8 32 (List.replicate 32 0)]
theorem ty22_ok : TyOk Try.prog 22 ty22 :=
  TyOk.of (f := Try.t22) (z := (Try.t22.zero).getD .nilIface) (cs := (zeroS ty22.zero).getD []) Try.underlying22 (by kernel_rfl) (by kernel_rfl) ⟨by kernel_rfl, by kernel_rfl⟩ (by kernel_rfl) (by kernel_rfl) (by kernel_rfl) (by kernel_rfl) (by kernel_rfl)
noncomputable def ty23 : TyI where
  td := .int .u16
  size := 1
  bytes := 2
  zero := [.xs b16 1 [0]]
theorem ty23_ok : TyOk Try.prog 23 ty23 :=
  TyOk.of (f := Try.t23) (z := (Try.t23.zero).getD .nilIface) (cs := (zeroS ty23.zero).getD []) Try.underlying23 (by kernel_rfl) (by kernel_rfl) ⟨by kernel_rfl, by kernel_rfl⟩ (by kernel_rfl) (by kernel_rfl) (by kernel_rfl) (by kernel_rfl) (by kernel_rfl)
noncomputable def ty24 : TyI where
  td := .sl 5
  size := 1
  bytes := 24
  zero := [.one (.nilsl)]
theorem ty24_ok : TyOk Try.prog 24 ty24 :=
  TyOk.of (f := Try.t24) (z := (Try.t24.zero).getD .nilIface) (cs := (zeroS ty24.zero).getD []) Try.underlying24 (by kernel_rfl) (by kernel_rfl) ⟨by kernel_rfl, by kernel_rfl⟩ (by kernel_rfl) (by kernel_rfl) (by kernel_rfl) (by kernel_rfl) (by kernel_rfl)
noncomputable def ty25 : TyI where
  td := .int .i64
  size := 1
  bytes := 8
  zero := [.xs (.int .i64) 1 [0]]
theorem ty25_ok : TyOk Try.prog 25 ty25 :=
  TyOk.of (f := Try.t25) (z := (Try.t25.zero).getD .nilIface) (cs := (zeroS ty25.zero).getD []) Try.underlying25 (by kernel_rfl) (by kernel_rfl) ⟨by kernel_rfl, by kernel_rfl⟩ (by kernel_rfl) (by kernel_rfl) (by kernel_rfl) (by kernel_rfl) (by kernel_rfl)
noncomputable def ty30 : TyI where
  td := .int .u64
  size := 1
  bytes := 8
  zero := [.xs (.int .u64) 1 [0]]
theorem ty30_ok : TyOk Try.prog 30 ty30 :=
  TyOk.of (f := Try.t30) (z := (Try.t30.zero).getD .nilIface) (cs := (zeroS ty30.zero).getD []) Try.underlying30 (by kernel_rfl) (by kernel_rfl) ⟨by kernel_rfl, by kernel_rfl⟩ (by kernel_rfl) (by kernel_rfl) (by kernel_rfl) (by kernel_rfl) (by kernel_rfl)
noncomputable def ty50 : TyI where
  td := .arr 64 5
  size := 64
  bytes := 64
  zero := [.xs b8 64 (List.replicate 64 0)]
theorem ty50_ok : TyOk Try.prog 50 ty50 :=
  TyOk.of (f := Try.t50) (z := (Try.t50.zero).getD .nilIface) (cs := (zeroS ty50.zero).getD []) Try.underlying50 (by kernel_rfl) (by kernel_rfl) ⟨by kernel_rfl, by kernel_rfl⟩ (by kernel_rfl) (by kernel_rfl) (by kernel_rfl) (by kernel_rfl) (by kernel_rfl)
noncomputable def ty58 : TyI where
  td := .sl 24
  size := 1
  bytes := 24
  zero := [.one (.nilsl)]
theorem ty58_ok : TyOk Try.prog 58 ty58 :=
  TyOk.of (f := Try.t58) (z := (Try.t58.zero).getD .nilIface) (cs := (zeroS ty58.zero).getD []) Try.underlying58 (by kernel_rfl) (by kernel_rfl) ⟨by kernel_rfl, by kernel_rfl⟩ (by kernel_rfl) (by kernel_rfl) (by kernel_rfl) (by kernel_rfl) (by kernel_rfl)
noncomputable def ty61 : TyI where
  td := .arr 256 23
  size := 256
  bytes := 512
  zero := [.xs b16 256 (List.replicate 256 0)]
theorem ty61_ok : TyOk Try.prog 61 ty61 :=
  TyOk.of (f := Try.t61) (z := (Try.t61.zero).getD .nilIface) (cs := (zeroS ty61.zero).getD []) Try.underlying61 (by kernel_rfl) (by kernel_rfl) ⟨by kernel_rfl, by kernel_rfl⟩ (by kernel_rfl) (by kernel_rfl) (by kernel_rfl) (by kernel_rfl) (by kernel_rfl)
noncomputable def ty63 : TyI where
  td := .arr 3 61
  size := 768
  bytes := 1536
  zero := [.xs b16 768 (List.replicate 768 0)]
theorem ty63_ok : TyOk Try.prog 63 ty63 :=
  TyOk.of (f := Try.t63) (z := (Try.t63.zero).getD .nilIface) (cs := (zeroS ty63.zero).getD []) Try.underlying63 (by kernel_rfl) (by kernel_rfl) ⟨by kernel_rfl, by kernel_rfl⟩ (by kernel_rfl) (by kernel_rfl) (by kernel_rfl) (by kernel_rfl) (by kernel_rfl)
noncomputable def ty71 : TyI where
  td := .int .u64
  size := 1
  bytes := 8
  zero := [.xs (.int .u64) 1 [0]]
theorem ty71_ok : TyOk Try.prog 71 ty71 :=
  TyOk.of (f := Try.t71) (z := (Try.t71.zero).getD .nilIface) (cs := (zeroS ty71.zero).getD []) Try.underlying71 (by kernel_rfl) (by kernel_rfl) ⟨by kernel_rfl, by kernel_rfl⟩ (by kernel_rfl) (by kernel_rfl) (by kernel_rfl) (by kernel_rfl) (by kernel_rfl)
noncomputable def ty72 : TyI where
  td := .arr 25 71
  size := 25
  bytes := 200
  zero := [.xs (.int .u64) 25 (List.replicate 25 0)]
theorem ty72_ok : TyOk Try.prog 72 ty72 :=
  TyOk.of (f := Try.t72) (z := (Try.t72.zero).getD .nilIface) (cs := (zeroS ty72.zero).getD []) Try.underlying72 (by kernel_rfl) (by kernel_rfl) ⟨by kernel_rfl, by kernel_rfl⟩ (by kernel_rfl) (by kernel_rfl) (by kernel_rfl) (by kernel_rfl) (by kernel_rfl)
noncomputable def ty74 : TyI where
  td := .st [(0, 72), (25, 3), (26, 3)]
  size := 27
  bytes := 216
  zero := [.xs (.int .u64) 25 (List.replicate 25 0), .xs (.int .i64) 1 [0], .xs (.int .i64) 1 [0]]
theorem ty74_ok : TyOk Try.prog 74 ty74 :=
  TyOk.of (f := Try.t74) (z := (Try.t74.zero).getD .nilIface) (cs := (zeroS ty74.zero).getD []) Try.underlying74 (by kernel_rfl) (by kernel_rfl) ⟨by kernel_rfl, by kernel_rfl⟩ (by kernel_rfl) (by kernel_rfl) (by kernel_rfl) (by kernel_rfl) (by kernel_rfl)
noncomputable def ty87 : TyI where
  td := .ptr 104
  size := 1
  bytes := 8
  zero := [.one (.nilp)]
theorem ty87_ok : TyOk Try.prog 87 ty87 :=
  TyOk.of (f := Try.t87) (z := (Try.t87.zero).getD .nilIface) (cs := (zeroS ty87.zero).getD []) Try.underlying87 (by kernel_rfl) (by kernel_rfl) ⟨by kernel_rfl, by kernel_rfl⟩ (by kernel_rfl) (by kernel_rfl) (by kernel_rfl) (by kernel_rfl) (by kernel_rfl)
noncomputable def ty98 : TyI where
  td := .arr 128 23
  size := 128
  bytes := 256
  zero := [.xs b16 128 (List.replicate 128 0)]
theorem ty98_ok : TyOk Try.prog 98 ty98 :=
  TyOk.of (f := Try.t98) (z := (Try.t98.zero).getD .nilIface) (cs := (zeroS ty98.zero).getD []) Try.underlying98 (by kernel_rfl) (by kernel_rfl) ⟨by kernel_rfl, by kernel_rfl⟩ (by kernel_rfl) (by kernel_rfl) (by kernel_rfl) (by kernel_rfl) (by kernel_rfl)
noncomputable def ty104 : TyI where
  td := .st [(0, 4), (1, 74), (28, 3)]
  size := 29
  bytes := 232
  zero := [.xs .bool 1 [0], .xs (.int .u64) 25 (List.replicate 25 0), .xs (.int .i64) 1 [0], .xs (.int .i64) 1 [0], .xs (.int .i64) 1 [0]]
theorem ty104_ok : TyOk Try.prog 104 ty104 :=
  TyOk.of (f := Try.t104) (z := (Try.t104.zero).getD .nilIface) (cs := (zeroS ty104.zero).getD []) Try.underlying104 (by kernel_rfl) (by kernel_rfl) ⟨by kernel_rfl, by kernel_rfl⟩ (by kernel_rfl) (by kernel_rfl) (by kernel_rfl) (by kernel_rfl) (by kernel_rfl)
noncomputable def ty105 : TyI where
  td := .arr 24 71
  size := 24
  bytes := 192
  zero := [.xs (.int .u64) 24 (List.replicate 24 0)]
theorem ty105_ok : TyOk Try.prog 105 ty105 :=
  TyOk.of (f := Try.t105) (z := (Try.t105.zero).getD .nilIface) (cs := (zeroS ty105.zero).getD []) Try.underlying105 (by kernel_rfl) (by kernel_rfl) ⟨by kernel_rfl, by kernel_rfl⟩ (by kernel_rfl) (by kernel_rfl) (by kernel_rfl) (by kernel_rfl) (by kernel_rfl)
noncomputable def ty108 : TyI where
  td := .arr 2 23
  size := 2
  bytes := 4
  zero := [.xs b16 2 (List.replicate 2 0)]
theorem ty108_ok : TyOk Try.prog 108 ty108 :=
  TyOk.of (f := Try.t108) (z := (Try.t108.zero).getD .nilIface) (cs := (zeroS ty108.zero).getD []) Try.underlying108 (by kernel_rfl) (by kernel_rfl) ⟨by kernel_rfl, by kernel_rfl⟩ (by kernel_rfl) (by kernel_rfl) (by kernel_rfl) (by kernel_rfl) (by kernel_rfl)
noncomputable def ty109 : TyI where
  td := .arr 25 3
  size := 25
  bytes := 200
  zero := [.xs (.int .i64) 25 (List.replicate 25 0)]
theorem ty109_ok : TyOk Try.prog 109 ty109 :=
  TyOk.of (f := Try.t109) (z := (Try.t109.zero).getD .nilIface) (cs := (zeroS ty109.zero).getD []) Try.underlying109 (by kernel_rfl) (by kernel_rfl) ⟨by kernel_rfl, by kernel_rfl⟩ (by kernel_rfl) (by kernel_rfl) (by kernel_rfl) (by kernel_rfl) (by kernel_rfl)
noncomputable def ty114 : TyI where
  td := .int .u32
  size := 1
  bytes := 4
  zero := [.xs (.int .u32) 1 [0]]
theorem ty114_ok : TyOk Try.prog 114 ty114 :=
  TyOk.of (f := Try.t114) (z := (Try.t114.zero).getD .nilIface) (cs := (zeroS ty114.zero).getD []) Try.underlying114 (by kernel_rfl) (by kernel_rfl) ⟨by kernel_rfl, by kernel_rfl⟩ (by kernel_rfl) (by kernel_rfl) (by kernel_rfl) (by kernel_rfl) (by kernel_rfl)
noncomputable def ty116 : TyI where
  td := .arr 5 71
  size := 5
  bytes := 40
  zero := [.xs (.int .u64) 5 (List.replicate 5 0)]
theorem ty116_ok : TyOk Try.prog 116 ty116 :=
  TyOk.of (f := Try.t116) (z := (Try.t116.zero).getD .nilIface) (cs := (zeroS ty116.zero).getD []) Try.underlying116 (by kernel_rfl) (by kernel_rfl) ⟨by kernel_rfl, by kernel_rfl⟩ (by kernel_rfl) (by kernel_rfl) (by kernel_rfl) (by kernel_rfl) (by kernel_rfl)
theorem enters_kem_KeyGen : Enters Try.prog 6 := ⟨Try.f6, Try.func6, by kernel_rfl, by kernel_rfl⟩
theorem enters_law14_live : Enters Try.prog 7 := ⟨Try.f7, Try.func7, by kernel_rfl, by kernel_rfl⟩
theorem enters_kem_CheckEk : Enters Try.prog 8 := ⟨Try.f8, Try.func8, by kernel_rfl, by kernel_rfl⟩
theorem enters_kem_CheckDk : Enters Try.prog 9 := ⟨Try.f9, Try.func9, by kernel_rfl, by kernel_rfl⟩
theorem enters_kem_Encaps : Enters Try.prog 10 := ⟨Try.f10, Try.func10, by kernel_rfl, by kernel_rfl⟩
theorem enters_kem_Decaps : Enters Try.prog 11 := ⟨Try.f11, Try.func11, by kernel_rfl, by kernel_rfl⟩
theorem enters_kem_PkeDecrypt : Enters Try.prog 12 := ⟨Try.f12, Try.func12, by kernel_rfl, by kernel_rfl⟩
theorem enters_law14_few : Enters Try.prog 13 := ⟨Try.f13, Try.func13, by kernel_rfl, by kernel_rfl⟩
theorem enters_ref01_Equal : Enters Try.prog 14 := ⟨Try.f14, Try.func14, by kernel_rfl, by kernel_rfl⟩
theorem enters_law14_zero : Enters Try.prog 15 := ⟨Try.f15, Try.func15, by kernel_rfl, by kernel_rfl⟩
theorem enters_ref03_Shake : Enters Try.prog 16 := ⟨Try.f16, Try.func16, by kernel_rfl, by kernel_rfl⟩
theorem enters_ref01_Join : Enters Try.prog 17 := ⟨Try.f17, Try.func17, by kernel_rfl, by kernel_rfl⟩
theorem enters_kem_PkeKey : Enters Try.prog 18 := ⟨Try.f18, Try.func18, by kernel_rfl, by kernel_rfl⟩
theorem enters_keccak_Sha3256 : Enters Try.prog 19 := ⟨Try.f19, Try.func19, by kernel_rfl, by kernel_rfl⟩
theorem enters_octet_Join : Enters Try.prog 20 := ⟨Try.f20, Try.func20, by kernel_rfl, by kernel_rfl⟩
theorem enters_ring_Canon : Enters Try.prog 21 := ⟨Try.f21, Try.func21, by kernel_rfl, by kernel_rfl⟩
theorem enters_octet_Same : Enters Try.prog 22 := ⟨Try.f22, Try.func22, by kernel_rfl, by kernel_rfl⟩
theorem enters_kem_caught : Enters Try.prog 23 := ⟨Try.f23, Try.func23, by kernel_rfl, by kernel_rfl⟩
theorem enters_kem_split : Enters Try.prog 24 := ⟨Try.f24, Try.func24, by kernel_rfl, by kernel_rfl⟩
theorem enters_keccak_Sha3512 : Enters Try.prog 25 := ⟨Try.f25, Try.func25, by kernel_rfl, by kernel_rfl⟩
theorem enters_kem_encrypt : Enters Try.prog 26 := ⟨Try.f26, Try.func26, by kernel_rfl, by kernel_rfl⟩
theorem enters_kem_decrypt : Enters Try.prog 27 := ⟨Try.f27, Try.func27, by kernel_rfl, by kernel_rfl⟩
theorem enters_kem_raw : Enters Try.prog 28 := ⟨Try.f28, Try.func28, by kernel_rfl, by kernel_rfl⟩
theorem enters_keccak_Shake : Enters Try.prog 29 := ⟨Try.f29, Try.func29, by kernel_rfl, by kernel_rfl⟩
theorem enters_octet_Choose : Enters Try.prog 30 := ⟨Try.f30, Try.func30, by kernel_rfl, by kernel_rfl⟩
theorem enters_ref03_Sponge : Enters Try.prog 31 := ⟨Try.f31, Try.func31, by kernel_rfl, by kernel_rfl⟩
theorem enters_kem_noises : Enters Try.prog 32 := ⟨Try.f32, Try.func32, by kernel_rfl, by kernel_rfl⟩
theorem enters_kem_row_turned : Enters Try.prog 33 := ⟨Try.f33, Try.func33, by kernel_rfl, by kernel_rfl⟩
theorem enters_kem_entry : Enters Try.prog 34 := ⟨Try.f34, Try.func34, by kernel_rfl, by kernel_rfl⟩
theorem enters_ring_Add : Enters Try.prog 35 := ⟨Try.f35, Try.func35, by kernel_rfl, by kernel_rfl⟩
theorem enters_kem_row_times : Enters Try.prog 36 := ⟨Try.f36, Try.func36, by kernel_rfl, by kernel_rfl⟩
theorem enters_kem_row_encoded : Enters Try.prog 37 := ⟨Try.f37, Try.func37, by kernel_rfl, by kernel_rfl⟩
theorem enters_keccak_sponge_takes : Enters Try.prog 38 := ⟨Try.f38, Try.func38, by kernel_rfl, by kernel_rfl⟩
theorem enters_keccak_sponge_gives : Enters Try.prog 39 := ⟨Try.f39, Try.func39, by kernel_rfl, by kernel_rfl⟩
theorem enters_ring_raw : Enters Try.prog 40 := ⟨Try.f40, Try.func40, by kernel_rfl, by kernel_rfl⟩
theorem enters_ring_Reduce : Enters Try.prog 41 := ⟨Try.f41, Try.func41, by kernel_rfl, by kernel_rfl⟩
theorem enters_kem_decoded : Enters Try.prog 42 := ⟨Try.f42, Try.func42, by kernel_rfl, by kernel_rfl⟩
theorem enters_ring_Inv : Enters Try.prog 43 := ⟨Try.f43, Try.func43, by kernel_rfl, by kernel_rfl⟩
theorem enters_kem_packed : Enters Try.prog 44 := ⟨Try.f44, Try.func44, by kernel_rfl, by kernel_rfl⟩
theorem enters_kem_noise : Enters Try.prog 45 := ⟨Try.f45, Try.func45, by kernel_rfl, by kernel_rfl⟩
theorem enters_kem_unpacked : Enters Try.prog 46 := ⟨Try.f46, Try.func46, by kernel_rfl, by kernel_rfl⟩
theorem enters_ring_Sub : Enters Try.prog 47 := ⟨Try.f47, Try.func47, by kernel_rfl, by kernel_rfl⟩
theorem enters_kem_fail : Enters Try.prog 48 := ⟨Try.f48, Try.func48, by kernel_rfl, by kernel_rfl⟩
theorem enters_keccak_may : Enters Try.prog 49 := ⟨Try.f49, Try.func49, by kernel_rfl, by kernel_rfl⟩
theorem enters_keccak_Shake128 : Enters Try.prog 50 := ⟨Try.f50, Try.func50, by kernel_rfl, by kernel_rfl⟩
theorem enters_keccak_Xof_Read : Enters Try.prog 51 := ⟨Try.f51, Try.func51, by kernel_rfl, by kernel_rfl⟩
theorem enters_keccak_Shake256 : Enters Try.prog 52 := ⟨Try.f52, Try.func52, by kernel_rfl, by kernel_rfl⟩
theorem enters_ref03_Permute : Enters Try.prog 53 := ⟨Try.f53, Try.func53, by kernel_rfl, by kernel_rfl⟩
theorem enters_ref03_bytes : Enters Try.prog 54 := ⟨Try.f54, Try.func54, by kernel_rfl, by kernel_rfl⟩
theorem enters_ring_Ntt : Enters Try.prog 55 := ⟨Try.f55, Try.func55, by kernel_rfl, by kernel_rfl⟩
theorem enters_kem_poly : Enters Try.prog 56 := ⟨Try.f56, Try.func56, by kernel_rfl, by kernel_rfl⟩
theorem enters_ring_SampleNtt : Enters Try.prog 57 := ⟨Try.f57, Try.func57, by kernel_rfl, by kernel_rfl⟩
theorem enters_ring_MulNtt : Enters Try.prog 58 := ⟨Try.f58, Try.func58, by kernel_rfl, by kernel_rfl⟩
theorem enters_ring_Encode : Enters Try.prog 59 := ⟨Try.f59, Try.func59, by kernel_rfl, by kernel_rfl⟩
theorem enters_keccak_sponge_put : Enters Try.prog 60 := ⟨Try.f60, Try.func60, by kernel_rfl, by kernel_rfl⟩
theorem enters_keccak_Permute : Enters Try.prog 61 := ⟨Try.f61, Try.func61, by kernel_rfl, by kernel_rfl⟩
theorem enters_ring_Decode : Enters Try.prog 62 := ⟨Try.f62, Try.func62, by kernel_rfl, by kernel_rfl⟩
theorem enters_ring_powers : Enters Try.prog 63 := ⟨Try.f63, Try.func63, by kernel_rfl, by kernel_rfl⟩
theorem enters_ring_times : Enters Try.prog 64 := ⟨Try.f64, Try.func64, by kernel_rfl, by kernel_rfl⟩
theorem enters_ring_Compress : Enters Try.prog 65 := ⟨Try.f65, Try.func65, by kernel_rfl, by kernel_rfl⟩
theorem enters_ring_Cbd : Enters Try.prog 66 := ⟨Try.f66, Try.func66, by kernel_rfl, by kernel_rfl⟩
theorem enters_ring_Decompress : Enters Try.prog 67 := ⟨Try.f67, Try.func67, by kernel_rfl, by kernel_rfl⟩
theorem enters_keccak_started : Enters Try.prog 68 := ⟨Try.f68, Try.func68, by kernel_rfl, by kernel_rfl⟩
theorem enters_keccak_Xof_none : Enters Try.prog 69 := ⟨Try.f69, Try.func69, by kernel_rfl, by kernel_rfl⟩
theorem enters_ref03_constants : Enters Try.prog 70 := ⟨Try.f70, Try.func70, by kernel_rfl, by kernel_rfl⟩
theorem enters_ref03_round : Enters Try.prog 71 := ⟨Try.f71, Try.func71, by kernel_rfl, by kernel_rfl⟩
theorem enters_keccak_offsets : Enters Try.prog 72 := ⟨Try.f72, Try.func72, by kernel_rfl, by kernel_rfl⟩
theorem enters_keccak_constants : Enters Try.prog 73 := ⟨Try.f73, Try.func73, by kernel_rfl, by kernel_rfl⟩
theorem enters_keccak_mixed : Enters Try.prog 74 := ⟨Try.f74, Try.func74, by kernel_rfl, by kernel_rfl⟩
theorem enters_bits_Reverse8 : Enters Try.prog 75 := ⟨Try.f75, Try.func75, by kernel_rfl, by kernel_rfl⟩
theorem enters_ring_Cbd_1 : Enters Try.prog 76 := ⟨Try.f76, Try.func76, by kernel_rfl, by kernel_rfl⟩
theorem enters_ref03_turn : Enters Try.prog 77 := ⟨Try.f77, Try.func77, by kernel_rfl, by kernel_rfl⟩
theorem enters_bits_RotateLeft64 : Enters Try.prog 78 := ⟨Try.f78, Try.func78, by kernel_rfl, by kernel_rfl⟩
end Go.Ax.TryP
set_option linter.unusedVariables false
namespace Go.Ax.TryP
open Go.Proofs
noncomputable def i_kem_fail_E : AE := AE.ofI [(25, ty25)] [] [] [] [] [] []
noncomputable def i_kem_fail : Inl := inlOf i_kem_fail_E 0 Try.f48
theorem i_kem_fail_ok : InlOk Try.prog 48 i_kem_fail := inlOf_ok (AE.ofI_ok (all_cons ty25_ok all_nil) all_nil all_nil all_nil all_nil) mix Try.func48 0
noncomputable def i_kem_raw_E : AE := AE.ofI [] [] [] [(48, i_kem_fail)] [] [] []
noncomputable def i_kem_raw : Inl := inlOf i_kem_raw_E 0 Try.f28
theorem i_kem_raw_ok : InlOk Try.prog 28 i_kem_raw := inlOf_ok (AE.ofI_ok all_nil all_nil all_nil (all_cons ⟨i_kem_fail_ok, enters_kem_fail⟩ all_nil) all_nil) mix Try.func28 0
noncomputable def i_kem_poly_E : AE := AE.ofI [(61, ty61)] [] [] [(48, i_kem_fail)] [] [] []
noncomputable def i_kem_poly : Inl := inlOf i_kem_poly_E 0 Try.f56
theorem i_kem_poly_ok : InlOk Try.prog 56 i_kem_poly := inlOf_ok (AE.ofI_ok (all_cons ty61_ok all_nil) all_nil all_nil (all_cons ⟨i_kem_fail_ok, enters_kem_fail⟩ all_nil) all_nil) mix Try.func56 0
theorem run_kem_raw (mem : List Slot) (v : AV) : i_kem_raw.run (List AV × List Slot) [.one v, .one (.sc (.int .i64 0))] mem rtK = some ([v], mem ++ [] ++ [] ++ [] ++ []) := by kernel_rfl
theorem re_kem_raw : ReOk Try.prog 28 0 1 2 := ReOk.of i_kem_raw_ok (fun mem v => (run_kem_raw mem v).trans (by simp only [List.append_nil]))
theorem ifc20_ok : IfcOk Try.prog 20 := ⟨_, Try.underlying20⟩
theorem imp25_80_ok : ImpOk Try.prog 25 80 := ⟨_, Try.t25, Try.underlying80, by kernel_rfl, by kernel_rfl⟩
noncomputable def cat_kem_caught_E : AE := AE.ofA [(25, ty25)] [] [] [] [] [] [] [] [] [20] [(25, 80)] []
noncomputable def cat_kem_caught : Cat := catOf cat_kem_caught_E 0 Try.f23
theorem cat_kem_caught_Eok : cat_kem_caught_E.Ok Try.prog := AE.ofA_ok (all_cons ty25_ok all_nil) all_nil all_nil all_nil all_nil all_nil all_nil (all_cons ifc20_ok all_nil) (all_cons imp25_80_ok all_nil) all_nil
theorem cat_kem_caught_ok : CatOk Try.prog 23 cat_kem_caught := catOf_ok cat_kem_caught_Eok mix Try.func23 0
end Go.Ax.TryP
set_option linter.unusedVariables false
namespace Go.Ax.TryP
open Go.Proofs
def poly (h : Nat → Int) : List Int := (List.range 256).map h
def zeros : List Int := List.replicate 256 0
def fRed (a : List Int) : List Int := poly fun i => a.getD i 0 % 3329
noncomputable def g_ring_Reduce : List Int × Unit → Option (List Int) := Spec (ks := [.xs (.int .u16) 256]) (rs := [.xs (.int .u16) 256]) (fun _ => True) fun x => fRed x.1
noncomputable def g_ring_times : Int × Int × Unit → Option (Int) := Spec (ks := [.int .u16, .int .u16]) (rs := [.int .u16]) (fun _ => True) fun x => x.1 * x.2.1 % 3329
def fComp (d z : Int) : Int := (2 * (z % 3329) * 2 ^ d.toNat + 3329) / (2 * 3329) % 2 ^ d.toNat
def fDecomp (d z : Int) : Int := (2 * (z % 2 ^ d.toNat) * 3329 + 2 ^ d.toNat) / (2 * 2 ^ d.toNat)
def fCompress (d : Int) (a : List Int) : List Int × Int := if d < 1 ∨ 11 < d then (zeros, 1) else (poly fun i => fComp d (a.getD i 0), 0)
def fDecompress (d : Int) (a : List Int) : List Int × Int := if d < 1 ∨ 11 < d then (zeros, 1) else (poly fun i => fDecomp d (a.getD i 0), 0)
noncomputable def g_ring_Compress : Int × List Int × Unit → Option (List Int × Int) := Spec (ks := [.int .i64, .xs (.int .u16) 256]) (rs := [.xs (.int .u16) 256, .int .i64]) (fun _ => True) fun x => fCompress x.1 x.2.1
noncomputable def g_ring_Decompress : Int × List Int × Unit → Option (List Int × Int) := Spec (ks := [.int .i64, .xs (.int .u16) 256]) (rs := [.xs (.int .u16) 256, .int .i64]) (fun _ => True) fun x => fDecompress x.1 x.2.1
def rev8 (n : Nat) : Nat := (List.range 8).foldl (fun s i => 2 * s + n / 2 ^ i % 2) 0
def rev7 (n : Nat) : Nat := rev8 n / 2
def zeta (k : Nat) : Int := 17 ^ rev7 k % 3329
noncomputable def g_bits_Reverse8 : Int × Unit → Option (Int) := Spec (ks := [.int .u8]) (rs := [.int .u8]) (fun _ => True) fun x => (rev8 x.1.toNat : Int)
noncomputable def g_ring_powers : Unit → Option (List Int) := Spec (ks := []) (rs := [.xs (.int .u16) 128]) (fun _ => True) fun _ => (List.range 128).map zeta
def nLayer (size : Nat) (a : List Int) : List Int := poly fun j =>
  if j % (2 * size) < size then (a.getD j 0 + zeta (128 / size + j / (2 * size)) * a.getD (j + size) 0 % 3329) % 3329
  else (a.getD (j - size) 0 + 3329 - zeta (128 / size + j / (2 * size)) * a.getD j 0 % 3329) % 3329
def fNtt (a : List Int) : List Int := [128, 64, 32, 16, 8, 4, 2].foldl (fun a s => nLayer s a) (fRed a)
noncomputable def g_ring_Ntt : List Int × Unit → Option (List Int) := Spec (ks := [.xs (.int .u16) 256]) (rs := [.xs (.int .u16) 256]) (fun _ => True) fun x => fNtt x.1
def root (i : Nat) : Int := 17 ^ (2 * rev7 i + 1) % 3329
def mval (a b : List Int) (j : Nat) : Int :=
  if j % 2 = 0 then ((a.getD j 0 % 3329) * (b.getD j 0 % 3329) + (a.getD (j + 1) 0 % 3329) * (b.getD (j + 1) 0 % 3329) % 3329 * root (j / 2)) % 3329
  else ((a.getD (j - 1) 0 % 3329) * (b.getD j 0 % 3329) + (a.getD j 0 % 3329) * (b.getD (j - 1) 0 % 3329)) % 3329
def fMulN (a b : List Int) : List Int := poly (mval a b)
noncomputable def g_ring_MulNtt : List Int × List Int × Unit → Option (List Int) := Spec (ks := [.xs (.int .u16) 256, .xs (.int .u16) 256]) (rs := [.xs (.int .u16) 256]) (fun _ => True) fun x => fMulN x.1 x.2.1
def ival (s : Nat) (a : List Int) (j : Nat) : Int :=
  if j % (2 * s) < s then (a.getD j 0 + a.getD (j + s) 0) % 3329
  else zeta (2 * (128 / s) - 1 - j / (2 * s)) * ((a.getD j 0 + 3329 - a.getD (j - s) 0) % 3329) % 3329
def iLayer (s : Nat) (a : List Int) : List Int := poly (ival s a)
def iStage (a : List Int) : Nat → List Int
  | 0 => fRed a
  | i + 1 => iLayer (2 * 2 ^ i) (iStage a i)
def fInv (a : List Int) : List Int := poly fun j => (iStage a 7).getD j 0 * 3303 % 3329
noncomputable def g_ring_Inv : List Int × Unit → Option (List Int) := Spec (ks := [.xs (.int .u16) 256]) (rs := [.xs (.int .u16) 256]) (fun _ => True) fun x => fInv x.1
def fAdd (a b : List Int) : List Int := poly fun j => (a.getD j 0 + b.getD j 0) % 3329
def fSub (a b : List Int) : List Int := poly fun j => (a.getD j 0 - b.getD j 0) % 3329
noncomputable def g_ring_Add : List Int × List Int × Unit → Option (List Int) := Spec (ks := [.xs (.int .u16) 256, .xs (.int .u16) 256]) (rs := [.xs (.int .u16) 256]) (fun _ => True) fun x => fAdd x.1 x.2.1
noncomputable def g_ring_Sub : List Int × List Int × Unit → Option (List Int) := Spec (ks := [.xs (.int .u16) 256, .xs (.int .u16) 256]) (rs := [.xs (.int .u16) 256]) (fun _ => True) fun x => fSub x.1 x.2.1
noncomputable def g_ref01_Equal : List Int × List Int × Unit → Option Bool := Spec (ks := [.sl (.int .u8), .sl (.int .u8)]) (rs := [.bool]) (fun _ => True) fun x => decide (x.1 = x.2.1)
end Go.Ax.TryP
set_option linter.unusedVariables false
namespace Go.Ax.TryP
open Go.Proofs
noncomputable def p_ring_Reduce_E : AE := AE.of [(23, ty23), (61, ty61)] []
noncomputable def p_ring_Reduce_H : Hints := [(2, [1, 2, 4]), (2000000, [1, 2]), (2000001, [1, 2, 4]), (3000000, [2])]
noncomputable def p_ring_Reduce_c : Code := (Try.f41).body.getD .skip
noncomputable def p_ring_Reduce_l2_S : Shape where
  h := { tmps := [V, .sc (.ptr 0 0 false), .sc (.ptr 1 0 false), V, .sc (.int .i64), V, V, V, V, V, V, V, V, V], mem := [.live [.xs b16 (some 256)] (.own), .live [.xs b16 (some 256)] (.own)] }
  ks := [.int, .xs, .xs]
  st := fun x => { tmps := [U, .one (.sc (.ptr 0 0 none)), .one (.sc (.ptr 1 0 none)), U, .one (.sc (.int .i64 x.1)), U, U, U, U, U, U, U, U, U], mem := [.live { segs := [.xs b16 256 x.2.1], own := .own }, .live { segs := [.xs b16 256 x.2.2.1], own := .own }] }
noncomputable def p_ring_Reduce_l2_F (N : Nat) (β : Type) (x : (Int × List Int × List Int × Unit)) (kn : (Int × List Int × List Int × Unit) → Option β) (ke : ((List Int × List Int × Unit)) → Option β) : Option β :=
  if (x.1 < (256:Int)) then
    if 0 ≤ x.1 then (
    if x.1 < 256 then (
    if (x.1.toNat) < 256 then (
    if 0 ≤ x.1 then (
    if x.1 < 256 then (
    if (x.1.toNat) < 256 then (
    kn ((IntKind.i64.wrap (x.1 + (1:Int))), (List.set x.2.1 (x.1.toNat) (Int.tmod (List.getD x.2.1 (x.1.toNat) 0) (3329:Int))), x.2.2.1, ())) else none) else none) else none) else none) else none) else none
  else
    ke (x.2.1, x.2.2.1, ())
noncomputable def p_ring_Reduce_l2_go : Go' ((List Int × List Int × Unit)) := fun y K => K (.exit 0) { tmps := [U, .one (.sc (.ptr 0 0 none)), .one (.sc (.ptr 1 0 none)), U, U, U, U, U, U, U, U, U, U, U], mem := [.live { segs := [.xs b16 256 y.1], own := .own }, .live { segs := [.xs b16 256 y.2.1], own := .own }] }
noncomputable def p_ring_Reduce_l2_L (N : Nat) : LT := upd (LT.nil) 2 (loopE p_ring_Reduce_l2_S N (p_ring_Reduce_l2_F N) p_ring_Reduce_l2_go)
theorem p_ring_Reduce_l2_ok (N : Nat) : OkAll p_ring_Reduce_E p_ring_Reduce_H N (p_ring_Reduce_l2_L N) (subs p_ring_Reduce_c) :=
  addLoop (c := theLoop 2 p_ring_Reduce_c) (OkAll.nil) (by kernel_rfl) (fun x => by kernel_rfl) (fun β x kn ke => by kernel_rfl)
abbrev p_ring_Reduce_ks : List Kd := [.xs b16 256]
abbrev p_ring_Reduce_rs : List Kd := [.xs b16 256]
noncomputable def p_ring_Reduce (N : Nat) (x : List Int × Unit) : Option (List Int) :=
  iter (p_ring_Reduce_l2_F N) N ((0:Int), x.1, (List.replicate 256 0), ()) fun y1 => (
  some y1.1)
theorem p_ring_Reduce_eq (N : Nat) (x : Ds [.xs b16 256]) : funL p_ring_Reduce_E p_ring_Reduce_H (p_ring_Reduce_l2_L N) N Try.f41 p_ring_Reduce_c [.xs b16 256] [.xs b16 256] x = p_ring_Reduce N x := by kernel_rfl
theorem p_ring_Reduce_Eok : p_ring_Reduce_E.Ok Try.prog := AE.of_ok (all_cons ty23_ok (all_cons ty61_ok all_nil)) all_nil
theorem p_ring_Reduce_ok {g : Ds [.xs b16 256] → Option (Rs [.xs b16 256])} (hg : ∀ x r, g x = some r → ∃ N, p_ring_Reduce N x = some r) : SigOk Try.prog 41 ⟨[.xs b16 256], [.xs b16 256], g⟩ :=
  fun_of (E := p_ring_Reduce_E) (H := p_ring_Reduce_H) (L := fun N => p_ring_Reduce_l2_L N) (c := p_ring_Reduce_c) (ks := p_ring_Reduce_ks) (rs := p_ring_Reduce_rs) (F := p_ring_Reduce) (p_ring_Reduce_Eok) mix Try.func41 (by kernel_rfl) (fun N => p_ring_Reduce_l2_ok N) p_ring_Reduce_eq hg
noncomputable def p_ring_times_E : AE := AE.of [(23, ty23), (114, ty114)] []
noncomputable def p_ring_times_H : Hints := [(3000000, [4])]
noncomputable def p_ring_times_c : Code := (Try.f64).body.getD .skip
abbrev p_ring_times_ks : List Kd := [.int .u16, .int .u16]
abbrev p_ring_times_rs : List Kd := [.int .u16]
noncomputable def p_ring_times (N : Nat) (x : Int × Int × Unit) : Option (Int) :=
  some (IntKind.u16.wrap (Int.tmod (IntKind.u32.wrap ((IntKind.u32.wrap x.1) * (IntKind.u32.wrap x.2.1))) (3329:Int)))
theorem p_ring_times_eq (N : Nat) (x : Ds [.int .u16, .int .u16]) : funL p_ring_times_E p_ring_times_H (LT.nil) N Try.f64 p_ring_times_c [.int .u16, .int .u16] [.int .u16] x = p_ring_times N x := by kernel_rfl
theorem p_ring_times_Eok : p_ring_times_E.Ok Try.prog := AE.of_ok (all_cons ty23_ok (all_cons ty114_ok all_nil)) all_nil
theorem p_ring_times_ok {g : Ds [.int .u16, .int .u16] → Option (Rs [.int .u16])} (hg : ∀ x r, g x = some r → ∃ N, p_ring_times N x = some r) : SigOk Try.prog 64 ⟨[.int .u16, .int .u16], [.int .u16], g⟩ :=
  fun_of (E := p_ring_times_E) (H := p_ring_times_H) (L := fun N => LT.nil) (c := p_ring_times_c) (ks := p_ring_times_ks) (rs := p_ring_times_rs) (F := p_ring_times) (p_ring_times_Eok) mix Try.func64 (by kernel_rfl) (fun N => OkAll.nil) p_ring_times_eq hg
noncomputable abbrev Z_ring_Reduce : Sig := ⟨[.xs b16 256], [.xs b16 256], g_ring_Reduce⟩
noncomputable def p_ring_Compress_E : AE := AE.of [(23, ty23), (61, ty61), (114, ty114)] [(41, Z_ring_Reduce)]
noncomputable def p_ring_Compress_H : Hints := [(5, [0, 3, 4, 17, 18]), (2000000, [3, 4]), (2000001, [0, 3, 4, 17, 18]), (3000000, [4, 5])]
noncomputable def p_ring_Compress_c : Code := (Try.f65).body.getD .skip
noncomputable def p_ring_Compress_l5_S : Shape where
  h := { tmps := [.sc (.int .i64), V, V, .sc (.ptr 0 0 false), .sc (.ptr 1 0 false), V, V, V, V, V, V, V, V, V, V, V, V, .agg [.xs b16 (some 256)], .sc (.int .i64), V, V, V, V, V, V, V, V, V, V, V, V, V, V, V, V, V, V], mem := [.live [.xs b16 (some 256)] (.own), .live [.xs b16 (some 256)] (.own)] }
  ks := [.int, .xs, .int, .xs, .xs]
  st := fun x => { tmps := [.one (.sc (.int .i64 x.1)), U, U, .one (.sc (.ptr 0 0 none)), .one (.sc (.ptr 1 0 none)), U, U, U, U, U, U, U, U, U, U, U, U, .one (.agg [.xs b16 256 x.2.1]), .one (.sc (.int .i64 x.2.2.1)), U, U, U, U, U, U, U, U, U, U, U, U, U, U, U, U, U, U], mem := [.live { segs := [.xs b16 256 x.2.2.2.1], own := .own }, .live { segs := [.xs b16 256 x.2.2.2.2.1], own := .own }] }
noncomputable def p_ring_Compress_l5_F (N : Nat) (β : Type) (x : (Int × List Int × Int × List Int × List Int × Unit)) (kn : (Int × List Int × Int × List Int × List Int × Unit) → Option β) (ke : ((List Int × List Int × Unit)) → Option β) : Option β :=
  if (x.2.2.1 < (256:Int)) then
    if 0 ≤ x.2.2.1 then (
    if x.2.2.1 < 256 then (
    if (x.2.2.1.toNat) < 256 then (
    if (IntKind.i64.wrap (x.1 + (1:Int))) < 0 then none else (
    if x.1 < 0 then none else (
    if (ishl IntKind.u32 (1:Int) x.1) = 0 then none else (
    if 0 ≤ x.2.2.1 then (
    if x.2.2.1 < 256 then (
    if (x.2.2.1.toNat) < 256 then (
    kn (x.1, x.2.1, (IntKind.i64.wrap (x.2.2.1 + (1:Int))), (List.set x.2.2.2.1 (x.2.2.1.toNat) (IntKind.u16.wrap (Int.tmod (IntKind.u32.wrap (Int.tdiv (IntKind.u32.wrap ((ishl IntKind.u32 (IntKind.u32.wrap (List.getD x.2.1 (x.2.2.1.toNat) 0)) (IntKind.i64.wrap (x.1 + (1:Int)))) + (3329:Int))) (6658:Int))) (ishl IntKind.u32 (1:Int) x.1)))), x.2.2.2.2.1, ())) else none) else none) else none)))) else none) else none) else none
  else
    ke (x.2.2.2.1, x.2.2.2.2.1, ())
noncomputable def p_ring_Compress_l5_go : Go' ((List Int × List Int × Unit)) := fun y K => K (.exit 0) { tmps := [U, U, U, .one (.sc (.ptr 0 0 none)), .one (.sc (.ptr 1 0 none)), U, U, U, U, U, U, U, U, U, U, U, U, U, U, U, U, U, U, U, U, U, U, U, U, U, U, U, U, U, U, U, U], mem := [.live { segs := [.xs b16 256 y.1], own := .own }, .live { segs := [.xs b16 256 y.2.1], own := .own }] }
noncomputable def p_ring_Compress_l5_L (N : Nat) : LT := upd (LT.nil) 5 (loopE p_ring_Compress_l5_S N (p_ring_Compress_l5_F N) p_ring_Compress_l5_go)
theorem p_ring_Compress_l5_ok (N : Nat) : OkAll p_ring_Compress_E p_ring_Compress_H N (p_ring_Compress_l5_L N) (subs p_ring_Compress_c) :=
  addLoop (c := theLoop 5 p_ring_Compress_c) (OkAll.nil) (by kernel_rfl) (fun x => by kernel_rfl) (fun β x kn ke => by kernel_rfl)
abbrev p_ring_Compress_ks : List Kd := [.int .i64, .xs b16 256]
abbrev p_ring_Compress_rs : List Kd := [.xs b16 256, .int .i64]
noncomputable def p_ring_Compress (N : Nat) (x : Int × List Int × Unit) : Option (List Int × Int) :=
  if (x.1 < (1:Int)) then
    some ((List.replicate 256 0), (1:Int))
  else
    if (x.1 > (11:Int)) then
      some ((List.replicate 256 0), (1:Int))
    else
      (g_ring_Reduce (x.2.1, ())).bind fun r1 => (
      iter (p_ring_Compress_l5_F N) N (x.1, r1, (0:Int), r1, (List.replicate 256 0), ()) fun y2 => (
      some (y2.1, (0:Int))))
theorem p_ring_Compress_eq (N : Nat) (x : Ds [.int .i64, .xs b16 256]) : funL p_ring_Compress_E p_ring_Compress_H (p_ring_Compress_l5_L N) N Try.f65 p_ring_Compress_c [.int .i64, .xs b16 256] [.xs b16 256, .int .i64] x = p_ring_Compress N x := by kernel_rfl
theorem p_ring_Compress_Eok (e0 : SigOk Try.prog 41 Z_ring_Reduce) : p_ring_Compress_E.Ok Try.prog := AE.of_ok (all_cons ty23_ok (all_cons ty61_ok (all_cons ty114_ok all_nil))) (all_cons ⟨e0, enters_ring_Reduce⟩ all_nil)
theorem p_ring_Compress_ok (e0 : SigOk Try.prog 41 Z_ring_Reduce) {g : Ds [.int .i64, .xs b16 256] → Option (Rs [.xs b16 256, .int .i64])} (hg : ∀ x r, g x = some r → ∃ N, p_ring_Compress N x = some r) : SigOk Try.prog 65 ⟨[.int .i64, .xs b16 256], [.xs b16 256, .int .i64], g⟩ :=
  fun_of (E := p_ring_Compress_E) (H := p_ring_Compress_H) (L := fun N => p_ring_Compress_l5_L N) (c := p_ring_Compress_c) (ks := p_ring_Compress_ks) (rs := p_ring_Compress_rs) (F := p_ring_Compress) (p_ring_Compress_Eok e0) mix Try.func65 (by kernel_rfl) (fun N => p_ring_Compress_l5_ok N) p_ring_Compress_eq hg
noncomputable def p_ring_Decompress_E : AE := AE.of [(23, ty23), (61, ty61), (114, ty114)] []
noncomputable def p_ring_Decompress_H : Hints := [(4, [0, 3, 4, 16, 17]), (2000000, [3, 4]), (2000001, [0, 3, 4, 16, 17]), (3000000, [4, 5])]
noncomputable def p_ring_Decompress_c : Code := (Try.f67).body.getD .skip
noncomputable def p_ring_Decompress_l4_S : Shape where
  h := { tmps := [.sc (.int .i64), V, V, .sc (.ptr 0 0 false), .sc (.ptr 1 0 false), V, V, V, V, V, V, V, V, V, V, V, .agg [.xs b16 (some 256)], .sc (.int .i64), V, V, V, V, V, V, V, V, V, V, V, V, V, V, V, V, V, V, V, V, V], mem := [.live [.xs b16 (some 256)] (.own), .live [.xs b16 (some 256)] (.own)] }
  ks := [.int, .xs, .int, .xs, .xs]
  st := fun x => { tmps := [.one (.sc (.int .i64 x.1)), U, U, .one (.sc (.ptr 0 0 none)), .one (.sc (.ptr 1 0 none)), U, U, U, U, U, U, U, U, U, U, U, .one (.agg [.xs b16 256 x.2.1]), .one (.sc (.int .i64 x.2.2.1)), U, U, U, U, U, U, U, U, U, U, U, U, U, U, U, U, U, U, U, U, U], mem := [.live { segs := [.xs b16 256 x.2.2.2.1], own := .own }, .live { segs := [.xs b16 256 x.2.2.2.2.1], own := .own }] }
noncomputable def p_ring_Decompress_l4_F (N : Nat) (β : Type) (x : (Int × List Int × Int × List Int × List Int × Unit)) (kn : (Int × List Int × Int × List Int × List Int × Unit) → Option β) (ke : ((List Int × List Int × Unit)) → Option β) : Option β :=
  if (x.2.2.1 < (256:Int)) then
    if 0 ≤ x.2.2.1 then (
    if x.2.2.1 < 256 then (
    if (x.2.2.1.toNat) < 256 then (
    if x.1 < 0 then none else (
    if (ishl IntKind.u32 (1:Int) x.1) = 0 then none else (
    if x.1 < 0 then none else (
    if (IntKind.i64.wrap (x.1 + (1:Int))) < 0 then none else (
    if 0 ≤ x.2.2.1 then (
    if x.2.2.1 < 256 then (
    if (x.2.2.1.toNat) < 256 then (
    kn (x.1, x.2.1, (IntKind.i64.wrap (x.2.2.1 + (1:Int))), (List.set x.2.2.2.1 (x.2.2.1.toNat) (IntKind.u16.wrap (ishr IntKind.u32 (IntKind.u32.wrap ((IntKind.u32.wrap ((6658:Int) * (Int.tmod (IntKind.u32.wrap (List.getD x.2.1 (x.2.2.1.toNat) 0)) (ishl IntKind.u32 (1:Int) x.1)))) + (ishl IntKind.u32 (1:Int) x.1))) (IntKind.i64.wrap (x.1 + (1:Int)))))), x.2.2.2.2.1, ())) else none) else none) else none))))) else none) else none) else none
  else
    ke (x.2.2.2.1, x.2.2.2.2.1, ())
noncomputable def p_ring_Decompress_l4_go : Go' ((List Int × List Int × Unit)) := fun y K => K (.exit 0) { tmps := [U, U, U, .one (.sc (.ptr 0 0 none)), .one (.sc (.ptr 1 0 none)), U, U, U, U, U, U, U, U, U, U, U, U, U, U, U, U, U, U, U, U, U, U, U, U, U, U, U, U, U, U, U, U, U, U], mem := [.live { segs := [.xs b16 256 y.1], own := .own }, .live { segs := [.xs b16 256 y.2.1], own := .own }] }
noncomputable def p_ring_Decompress_l4_L (N : Nat) : LT := upd (LT.nil) 4 (loopE p_ring_Decompress_l4_S N (p_ring_Decompress_l4_F N) p_ring_Decompress_l4_go)
theorem p_ring_Decompress_l4_ok (N : Nat) : OkAll p_ring_Decompress_E p_ring_Decompress_H N (p_ring_Decompress_l4_L N) (subs p_ring_Decompress_c) :=
  addLoop (c := theLoop 4 p_ring_Decompress_c) (OkAll.nil) (by kernel_rfl) (fun x => by kernel_rfl) (fun β x kn ke => by kernel_rfl)
abbrev p_ring_Decompress_ks : List Kd := [.int .i64, .xs b16 256]
abbrev p_ring_Decompress_rs : List Kd := [.xs b16 256, .int .i64]
noncomputable def p_ring_Decompress (N : Nat) (x : Int × List Int × Unit) : Option (List Int × Int) :=
  if (x.1 < (1:Int)) then
    some ((List.replicate 256 0), (1:Int))
  else
    if (x.1 > (11:Int)) then
      some ((List.replicate 256 0), (1:Int))
    else
      iter (p_ring_Decompress_l4_F N) N (x.1, x.2.1, (0:Int), x.2.1, (List.replicate 256 0), ()) fun y1 => (
      some (y1.1, (0:Int)))
theorem p_ring_Decompress_eq (N : Nat) (x : Ds [.int .i64, .xs b16 256]) : funL p_ring_Decompress_E p_ring_Decompress_H (p_ring_Decompress_l4_L N) N Try.f67 p_ring_Decompress_c [.int .i64, .xs b16 256] [.xs b16 256, .int .i64] x = p_ring_Decompress N x := by kernel_rfl
theorem p_ring_Decompress_Eok : p_ring_Decompress_E.Ok Try.prog := AE.of_ok (all_cons ty23_ok (all_cons ty61_ok (all_cons ty114_ok all_nil))) all_nil
theorem p_ring_Decompress_ok {g : Ds [.int .i64, .xs b16 256] → Option (Rs [.xs b16 256, .int .i64])} (hg : ∀ x r, g x = some r → ∃ N, p_ring_Decompress N x = some r) : SigOk Try.prog 67 ⟨[.int .i64, .xs b16 256], [.xs b16 256, .int .i64], g⟩ :=
  fun_of (E := p_ring_Decompress_E) (H := p_ring_Decompress_H) (L := fun N => p_ring_Decompress_l4_L N) (c := p_ring_Decompress_c) (ks := p_ring_Decompress_ks) (rs := p_ring_Decompress_rs) (F := p_ring_Decompress) (p_ring_Decompress_Eok) mix Try.func67 (by kernel_rfl) (fun N => p_ring_Decompress_l4_ok N) p_ring_Decompress_eq hg
noncomputable def p_bits_Reverse8_s0 : ByteArray := ⟨#[0, 128, 64, 192, 32, 160, 96, 224, 16, 144, 80, 208, 48, 176, 112, 240, 8, 136, 72, 200, 40, 168, 104, 232, 24, 152, 88, 216, 56, 184, 120, 248, 4, 132, 68, 196, 36, 164, 100, 228, 20, 148, 84, 212, 52, 180, 116, 244, 12, 140, 76, 204, 44, 172, 108, 236, 28, 156, 92, 220, 60, 188, 124, 252, 2, 130, 66, 194, 34, 162, 98, 226, 18, 146, 82, 210, 50, 178, 114, 242, 10, 138, 74, 202, 42, 170, 106, 234, 26, 154, 90, 218, 58, 186, 122, 250, 6, 134, 70, 198, 38, 166, 102, 230, 22, 150, 86, 214, 54, 182, 118, 246, 14, 142, 78, 206, 46, 174, 110, 238, 30, 158, 94, 222, 62, 190, 126, 254, 1, 129, 65, 193, 33, 161, 97, 225, 17, 145, 81, 209, 49, 177, 113, 241, 9, 137, 73, 201, 41, 169, 105, 233, 25, 153, 89, 217, 57, 185, 121, 249, 5, 133, 69, 197, 37, 165, 101, 229, 21, 149, 85, 213, 53, 181, 117, 245, 13, 141, 77, 205, 45, 173, 109, 237, 29, 157, 93, 221, 61, 189, 125, 253, 3, 131, 67, 195, 35, 163, 99, 227, 19, 147, 83, 211, 51, 179, 115, 243, 11, 139, 75, 203, 43, 171, 107, 235, 27, 155, 91, 219, 59, 187, 123, 251, 7, 135, 71, 199, 39, 167, 103, 231, 23, 151, 87, 215, 55, 183, 119, 247, 15, 143, 79, 207, 47, 175, 111, 239, 31, 159, 95, 223, 63, 191, 127, 255]⟩
noncomputable def p_bits_Reverse8_E : AE := AE.of [(9, ty9)] []
noncomputable def p_bits_Reverse8_H : Hints := [(3000000, [2])]
noncomputable def p_bits_Reverse8_c : Code := (Try.f75).body.getD .skip
abbrev p_bits_Reverse8_ks : List Kd := [.int .u8]
abbrev p_bits_Reverse8_rs : List Kd := [.int .u8]
noncomputable def p_bits_Reverse8 (N : Nat) (x : Int × Unit) : Option (Int) :=
  if 0 ≤ x.1 then (
  if x.1 < ((ByteArray.size p_bits_Reverse8_s0 : Nat) : Int) then (
  some (bt p_bits_Reverse8_s0 (x.1.toNat))) else none) else none
theorem p_bits_Reverse8_eq (N : Nat) (x : Ds [.int .u8]) : funL p_bits_Reverse8_E p_bits_Reverse8_H (LT.nil) N Try.f75 p_bits_Reverse8_c [.int .u8] [.int .u8] x = p_bits_Reverse8 N x := by kernel_rfl
theorem p_bits_Reverse8_Eok : p_bits_Reverse8_E.Ok Try.prog := AE.of_ok (all_cons ty9_ok all_nil) all_nil
theorem p_bits_Reverse8_ok {g : Ds [.int .u8] → Option (Rs [.int .u8])} (hg : ∀ x r, g x = some r → ∃ N, p_bits_Reverse8 N x = some r) : SigOk Try.prog 75 ⟨[.int .u8], [.int .u8], g⟩ :=
  fun_of (E := p_bits_Reverse8_E) (H := p_bits_Reverse8_H) (L := fun N => LT.nil) (c := p_bits_Reverse8_c) (ks := p_bits_Reverse8_ks) (rs := p_bits_Reverse8_rs) (F := p_bits_Reverse8) (p_bits_Reverse8_Eok) mix Try.func75 (by kernel_rfl) (fun N => OkAll.nil) p_bits_Reverse8_eq hg
noncomputable abbrev Z_ring_times : Sig := ⟨[.int .u16, .int .u16], [.int .u16], g_ring_times⟩
noncomputable abbrev Z_bits_Reverse8 : Sig := ⟨[.int .u8], [.int .u8], g_bits_Reverse8⟩
noncomputable def p_ring_powers_E : AE := AE.of [(3, ty3), (5, ty5), (23, ty23), (98, ty98)] [(64, Z_ring_times), (75, Z_bits_Reverse8)]
noncomputable def p_ring_powers_H : Hints := [(4, [0, 1, 2, 3]), (8, [0, 1, 2, 17]), (2000000, [0, 1, 2]), (2000001, [0, 1, 2, 3]), (2000002, [0, 2]), (2000003, [0, 1, 2, 17]), (3000000, [0])]
noncomputable def p_ring_powers_c : Code := (Try.f63).body.getD .skip
noncomputable def p_ring_powers_l4_S : Shape where
  h := { tmps := [.sc (.ptr 0 0 false), .sc (.ptr 1 0 false), .sc (.ptr 2 0 false), .sc (.int .i64), V, V, V, V, V, V, V, V, V, V, V, V, V, V, V, V, V, V, V, V, V, V, V, V, V, V], mem := [.live [.xs b16 (some 128)] (.own), .live [.xs b16 (some 128)] (.own), .live [.xs b16 (some 128)] (.own)] }
  ks := [.int, .xs, .xs, .xs]
  st := fun x => { tmps := [.one (.sc (.ptr 0 0 none)), .one (.sc (.ptr 1 0 none)), .one (.sc (.ptr 2 0 none)), .one (.sc (.int .i64 x.1)), U, U, U, U, U, U, U, U, U, U, U, U, U, U, U, U, U, U, U, U, U, U, U, U, U, U], mem := [.live { segs := [.xs b16 128 x.2.1], own := .own }, .live { segs := [.xs b16 128 x.2.2.1], own := .own }, .live { segs := [.xs b16 128 x.2.2.2.1], own := .own }] }
noncomputable def p_ring_powers_l4_F (N : Nat) (β : Type) (x : (Int × List Int × List Int × List Int × Unit)) (kn : (Int × List Int × List Int × List Int × Unit) → Option β) (ke : ((List Int × List Int × List Int × Unit)) → Option β) : Option β :=
  if (x.1 < (128:Int)) then
    if 0 ≤ (IntKind.i64.wrap (x.1 - (1:Int))) then (
    if (IntKind.i64.wrap (x.1 - (1:Int))) < 128 then (
    if ((IntKind.i64.wrap (x.1 - (1:Int))).toNat) < 128 then (
    (g_ring_times ((List.getD x.2.2.1 ((IntKind.i64.wrap (x.1 - (1:Int))).toNat) 0), (17:Int), ())).bind fun r1 => (
    if 0 ≤ x.1 then (
    if x.1 < 128 then (
    if (x.1.toNat) < 128 then (
    kn ((IntKind.i64.wrap (x.1 + (1:Int))), x.2.1, (List.set x.2.2.1 (x.1.toNat) r1), x.2.2.2.1, ())) else none) else none) else none)) else none) else none) else none
  else
    ke (x.2.1, x.2.2.1, x.2.2.2.1, ())
noncomputable def p_ring_powers_l4_go : Go' ((List Int × List Int × List Int × Unit)) := fun y K => K (.exit 0) { tmps := [.one (.sc (.ptr 0 0 none)), .one (.sc (.ptr 1 0 none)), .one (.sc (.ptr 2 0 none)), U, U, U, U, U, U, U, U, U, U, U, U, U, U, U, U, U, U, U, U, U, U, U, U, U, U, U], mem := [.live { segs := [.xs b16 128 y.1], own := .own }, .live { segs := [.xs b16 128 y.2.1], own := .own }, .live { segs := [.xs b16 128 y.2.2.1], own := .own }] }
noncomputable def p_ring_powers_l4_L (N : Nat) : LT := upd (LT.nil) 4 (loopE p_ring_powers_l4_S N (p_ring_powers_l4_F N) p_ring_powers_l4_go)
theorem p_ring_powers_l4_ok (N : Nat) : OkAll p_ring_powers_E p_ring_powers_H N (p_ring_powers_l4_L N) (subs p_ring_powers_c) :=
  addLoop (c := theLoop 4 p_ring_powers_c) (OkAll.nil) (by kernel_rfl) (fun x => by kernel_rfl) (fun β x kn ke => by kernel_rfl)
noncomputable def p_ring_powers_l8_S : Shape where
  h := { tmps := [.sc (.ptr 0 0 false), .sc (.ptr 1 0 false), .sc (.ptr 2 0 false), V, V, V, V, V, V, V, V, V, V, V, V, V, V, .sc (.int .i64), V, V, V, V, V, V, V, V, V, V, V, V], mem := [.live [.xs b16 (some 128)] (.own), .live [.xs b16 (some 128)] (.own), .live [.xs b16 (some 128)] (.own)] }
  ks := [.int, .xs, .xs, .xs]
  st := fun x => { tmps := [.one (.sc (.ptr 0 0 none)), .one (.sc (.ptr 1 0 none)), .one (.sc (.ptr 2 0 none)), U, U, U, U, U, U, U, U, U, U, U, U, U, U, .one (.sc (.int .i64 x.1)), U, U, U, U, U, U, U, U, U, U, U, U], mem := [.live { segs := [.xs b16 128 x.2.1], own := .own }, .live { segs := [.xs b16 128 x.2.2.1], own := .own }, .live { segs := [.xs b16 128 x.2.2.2.1], own := .own }] }
noncomputable def p_ring_powers_l8_F (N : Nat) (β : Type) (x : (Int × List Int × List Int × List Int × Unit)) (kn : (Int × List Int × List Int × List Int × Unit) → Option β) (ke : ((List Int × List Int × Unit)) → Option β) : Option β :=
  if (x.1 < (128:Int)) then
    (g_bits_Reverse8 ((IntKind.u8.wrap x.1), ())).bind fun r3 => (
    if 0 ≤ (ishr IntKind.u8 r3 (1:Int)) then (
    if (ishr IntKind.u8 r3 (1:Int)) < 128 then (
    if ((ishr IntKind.u8 r3 (1:Int)).toNat) < 128 then (
    if 0 ≤ x.1 then (
    if x.1 < 128 then (
    if (x.1.toNat) < 128 then (
    kn ((IntKind.i64.wrap (x.1 + (1:Int))), x.2.1, x.2.2.1, (List.set x.2.2.2.1 (x.1.toNat) (List.getD x.2.2.1 ((ishr IntKind.u8 r3 (1:Int)).toNat) 0)), ())) else none) else none) else none) else none) else none) else none)
  else
    ke (x.2.1, x.2.2.2.1, ())
noncomputable def p_ring_powers_l8_go : Go' ((List Int × List Int × Unit)) := fun y K => K (.exit 2) { tmps := [.one (.sc (.ptr 0 0 none)), U, .one (.sc (.ptr 1 0 none)), U, U, U, U, U, U, U, U, U, U, U, U, U, U, U, U, U, U, U, U, U, U, U, U, U, U, U], mem := [.live { segs := [.xs b16 128 y.1], own := .own }, .live { segs := [.xs b16 128 y.2.1], own := .own }] }
noncomputable def p_ring_powers_l8_L (N : Nat) : LT := upd (p_ring_powers_l4_L N) 8 (loopE p_ring_powers_l8_S N (p_ring_powers_l8_F N) p_ring_powers_l8_go)
theorem p_ring_powers_l8_ok (N : Nat) : OkAll p_ring_powers_E p_ring_powers_H N (p_ring_powers_l8_L N) (subs p_ring_powers_c) :=
  addLoop (c := theLoop 8 p_ring_powers_c) (p_ring_powers_l4_ok N) (by kernel_rfl) (fun x => by kernel_rfl) (fun β x kn ke => by kernel_rfl)
abbrev p_ring_powers_ks : List Kd := []
abbrev p_ring_powers_rs : List Kd := [.xs b16 128]
noncomputable def p_ring_powers (N : Nat) (x : Unit) : Option (List Int) :=
  iter (p_ring_powers_l4_F N) N ((1:Int), (List.replicate 128 0), (List.set (List.replicate 128 0) 0 (1:Int)), (List.replicate 128 0), ()) fun y2 => (
  iter (p_ring_powers_l8_F N) N ((0:Int), y2.1, y2.2.1, y2.2.2.1, ()) fun y4 => (
  some y4.2.1))
theorem p_ring_powers_eq (N : Nat) (x : Ds []) : funL p_ring_powers_E p_ring_powers_H (p_ring_powers_l8_L N) N Try.f63 p_ring_powers_c [] [.xs b16 128] x = p_ring_powers N x := by kernel_rfl
theorem p_ring_powers_Eok (e0 : SigOk Try.prog 64 Z_ring_times) (e1 : SigOk Try.prog 75 Z_bits_Reverse8) : p_ring_powers_E.Ok Try.prog := AE.of_ok (all_cons ty3_ok (all_cons ty5_ok (all_cons ty23_ok (all_cons ty98_ok all_nil)))) (all_cons ⟨e0, enters_ring_times⟩ (all_cons ⟨e1, enters_bits_Reverse8⟩ all_nil))
theorem p_ring_powers_ok (e0 : SigOk Try.prog 64 Z_ring_times) (e1 : SigOk Try.prog 75 Z_bits_Reverse8) {g : Ds [] → Option (Rs [.xs b16 128])} (hg : ∀ x r, g x = some r → ∃ N, p_ring_powers N x = some r) : SigOk Try.prog 63 ⟨[], [.xs b16 128], g⟩ :=
  fun_of (E := p_ring_powers_E) (H := p_ring_powers_H) (L := fun N => p_ring_powers_l8_L N) (c := p_ring_powers_c) (ks := p_ring_powers_ks) (rs := p_ring_powers_rs) (F := p_ring_powers) (p_ring_powers_Eok e0 e1) mix Try.func63 (by kernel_rfl) (fun N => p_ring_powers_l8_ok N) p_ring_powers_eq hg
noncomputable abbrev Z_ring_powers : Sig := ⟨[], [.xs b16 128], g_ring_powers⟩
noncomputable def p_ring_Ntt_E : AE := AE.of [(23, ty23), (61, ty61), (98, ty98)] [(41, Z_ring_Reduce), (63, Z_ring_powers), (64, Z_ring_times)]
noncomputable def p_ring_Ntt_H : Hints := [(5, [1, 2, 3, 4, 5]), (8, [1, 2, 3, 4, 5, 6]), (11, [1, 2, 3, 4, 5, 6, 7]), (2000000, [1, 2]), (2000001, [1, 2, 3, 4, 5]), (2000002, [1, 2, 3, 4, 5]), (2000003, [1, 2, 3, 4, 5, 6]), (2000004, [1, 2, 3, 4, 5, 6]), (2000005, [1, 2, 3, 4, 5, 6, 7]), (3000000, [2])]
noncomputable def p_ring_Ntt_c : Code := (Try.f55).body.getD .skip
noncomputable def p_ring_Ntt_l11_S : Shape where
  h := { tmps := [V, .sc (.ptr 0 0 false), .sc (.ptr 1 0 false), .sc (.ptr 2 0 false), .sc (.int .i64), .sc (.int .i64), .sc (.int .i64), .sc (.int .i64), V, V, V, V, V, V, V, V, V, V, V, V, V, V, V, V, V, V, V, V, V, V, V, V, V, V, V, V, V, V, V, V, V, V, V, V, V, V, V, V, V, V, V, V, V, V, V, V, V, V, V, V, V], mem := [.live [.xs b16 (some 256)] (.own), .live [.xs b16 (some 256)] (.own), .live [.xs b16 (some 128)] (.own)] }
  ks := [.int, .int, .int, .int, .xs, .xs, .xs]
  st := fun x => { tmps := [U, .one (.sc (.ptr 0 0 none)), .one (.sc (.ptr 1 0 none)), .one (.sc (.ptr 2 0 none)), .one (.sc (.int .i64 x.1)), .one (.sc (.int .i64 x.2.1)), .one (.sc (.int .i64 x.2.2.1)), .one (.sc (.int .i64 x.2.2.2.1)), U, U, U, U, U, U, U, U, U, U, U, U, U, U, U, U, U, U, U, U, U, U, U, U, U, U, U, U, U, U, U, U, U, U, U, U, U, U, U, U, U, U, U, U, U, U, U, U, U, U, U, U, U], mem := [.live { segs := [.xs b16 256 x.2.2.2.2.1], own := .own }, .live { segs := [.xs b16 256 x.2.2.2.2.2.1], own := .own }, .live { segs := [.xs b16 128 x.2.2.2.2.2.2.1], own := .own }] }
noncomputable def p_ring_Ntt_l11_F (N : Nat) (β : Type) (x : (Int × Int × Int × Int × List Int × List Int × List Int × Unit)) (kn : (Int × Int × Int × Int × List Int × List Int × List Int × Unit) → Option β) (ke : ((Int × Int × Int × List Int × List Int × List Int × Unit)) → Option β) : Option β :=
  if (x.2.2.2.1 < (IntKind.i64.wrap (x.2.2.1 + x.2.1))) then
    if 0 ≤ x.1 then (
    if x.1 < 128 then (
    if (x.1.toNat) < 128 then (
    if 0 ≤ (IntKind.i64.wrap (x.2.2.2.1 + x.2.1)) then (
    if (IntKind.i64.wrap (x.2.2.2.1 + x.2.1)) < 256 then (
    if ((IntKind.i64.wrap (x.2.2.2.1 + x.2.1)).toNat) < 256 then (
    (g_ring_times ((List.getD x.2.2.2.2.2.2.1 (x.1.toNat) 0), (List.getD x.2.2.2.2.1 ((IntKind.i64.wrap (x.2.2.2.1 + x.2.1)).toNat) 0), ())).bind fun r3 => (
    if 0 ≤ x.2.2.2.1 then (
    if x.2.2.2.1 < 256 then (
    if (x.2.2.2.1.toNat) < 256 then (
    if 0 ≤ x.2.2.2.1 then (
    if x.2.2.2.1 < 256 then (
    if (x.2.2.2.1.toNat) < 256 then (
    if 0 ≤ x.2.2.2.1 then (
    if x.2.2.2.1 < 256 then (
    if (x.2.2.2.1.toNat) < 256 then (
    if 0 ≤ (IntKind.i64.wrap (x.2.2.2.1 + x.2.1)) then (
    if (IntKind.i64.wrap (x.2.2.2.1 + x.2.1)) < 256 then (
    if ((IntKind.i64.wrap (x.2.2.2.1 + x.2.1)).toNat) < 256 then (
    kn (x.1, x.2.1, x.2.2.1, (IntKind.i64.wrap (x.2.2.2.1 + (1:Int))), (List.set (List.set x.2.2.2.2.1 (x.2.2.2.1.toNat) (Int.tmod (IntKind.u16.wrap ((List.getD x.2.2.2.2.1 (x.2.2.2.1.toNat) 0) + r3)) (3329:Int))) ((IntKind.i64.wrap (x.2.2.2.1 + x.2.1)).toNat) (Int.tmod (IntKind.u16.wrap ((IntKind.u16.wrap ((List.getD x.2.2.2.2.1 (x.2.2.2.1.toNat) 0) + (3329:Int))) - r3)) (3329:Int))), x.2.2.2.2.2.1, x.2.2.2.2.2.2.1, ())) else none) else none) else none) else none) else none) else none) else none) else none) else none) else none) else none) else none)) else none) else none) else none) else none) else none) else none
  else
    ke (x.1, x.2.1, x.2.2.1, x.2.2.2.2.1, x.2.2.2.2.2.1, x.2.2.2.2.2.2.1, ())
noncomputable def p_ring_Ntt_l11_go : Go' ((Int × Int × Int × List Int × List Int × List Int × Unit)) := fun y K => K (.exit 4) { tmps := [U, .one (.sc (.ptr 0 0 none)), .one (.sc (.ptr 1 0 none)), .one (.sc (.ptr 2 0 none)), .one (.sc (.int .i64 y.1)), .one (.sc (.int .i64 y.2.1)), .one (.sc (.int .i64 y.2.2.1)), U, U, U, U, U, U, U, U, U, U, U, U, U, U, U, U, U, U, U, U, U, U, U, U, U, U, U, U, U, U, U, U, U, U, U, U, U, U, U, U, U, U, U, U, U, U, U, U, U, U, U, U, U, U], mem := [.live { segs := [.xs b16 256 y.2.2.2.1], own := .own }, .live { segs := [.xs b16 256 y.2.2.2.2.1], own := .own }, .live { segs := [.xs b16 128 y.2.2.2.2.2.1], own := .own }] }
noncomputable def p_ring_Ntt_l11_L (N : Nat) : LT := upd (LT.nil) 11 (loopE p_ring_Ntt_l11_S N (p_ring_Ntt_l11_F N) p_ring_Ntt_l11_go)
theorem p_ring_Ntt_l11_ok (N : Nat) : OkAll p_ring_Ntt_E p_ring_Ntt_H N (p_ring_Ntt_l11_L N) (subs p_ring_Ntt_c) :=
  addLoop (c := theLoop 11 p_ring_Ntt_c) (OkAll.nil) (by kernel_rfl) (fun x => by kernel_rfl) (fun β x kn ke => by kernel_rfl)
noncomputable def p_ring_Ntt_l8_S : Shape where
  h := { tmps := [V, .sc (.ptr 0 0 false), .sc (.ptr 1 0 false), .sc (.ptr 2 0 false), .sc (.int .i64), .sc (.int .i64), .sc (.int .i64), V, V, V, V, V, V, V, V, V, V, V, V, V, V, V, V, V, V, V, V, V, V, V, V, V, V, V, V, V, V, V, V, V, V, V, V, V, V, V, V, V, V, V, V, V, V, V, V, V, V, V, V, V, V], mem := [.live [.xs b16 (some 256)] (.own), .live [.xs b16 (some 256)] (.own), .live [.xs b16 (some 128)] (.own)] }
  ks := [.int, .int, .int, .xs, .xs, .xs]
  st := fun x => { tmps := [U, .one (.sc (.ptr 0 0 none)), .one (.sc (.ptr 1 0 none)), .one (.sc (.ptr 2 0 none)), .one (.sc (.int .i64 x.1)), .one (.sc (.int .i64 x.2.1)), .one (.sc (.int .i64 x.2.2.1)), U, U, U, U, U, U, U, U, U, U, U, U, U, U, U, U, U, U, U, U, U, U, U, U, U, U, U, U, U, U, U, U, U, U, U, U, U, U, U, U, U, U, U, U, U, U, U, U, U, U, U, U, U, U], mem := [.live { segs := [.xs b16 256 x.2.2.2.1], own := .own }, .live { segs := [.xs b16 256 x.2.2.2.2.1], own := .own }, .live { segs := [.xs b16 128 x.2.2.2.2.2.1], own := .own }] }
noncomputable def p_ring_Ntt_l8_F (N : Nat) (β : Type) (x : (Int × Int × Int × List Int × List Int × List Int × Unit)) (kn : (Int × Int × Int × List Int × List Int × List Int × Unit) → Option β) (ke : ((Int × Int × List Int × List Int × List Int × Unit)) → Option β) : Option β :=
  if (x.2.2.1 < (256:Int)) then
    iter (p_ring_Ntt_l11_F N) N (x.1, x.2.1, x.2.2.1, x.2.2.1, x.2.2.2.1, x.2.2.2.2.1, x.2.2.2.2.2.1, ()) fun y4 => (
    kn ((IntKind.i64.wrap (y4.1 + (1:Int))), y4.2.1, (IntKind.i64.wrap (y4.2.2.1 + (IntKind.i64.wrap ((2:Int) * y4.2.1)))), y4.2.2.2.1, y4.2.2.2.2.1, y4.2.2.2.2.2.1, ()))
  else
    ke (x.1, x.2.1, x.2.2.2.1, x.2.2.2.2.1, x.2.2.2.2.2.1, ())
noncomputable def p_ring_Ntt_l8_go : Go' ((Int × Int × List Int × List Int × List Int × Unit)) := fun y K => K (.exit 2) { tmps := [U, .one (.sc (.ptr 0 0 none)), .one (.sc (.ptr 1 0 none)), .one (.sc (.ptr 2 0 none)), .one (.sc (.int .i64 y.1)), .one (.sc (.int .i64 y.2.1)), U, U, U, U, U, U, U, U, U, U, U, U, U, U, U, U, U, U, U, U, U, U, U, U, U, U, U, U, U, U, U, U, U, U, U, U, U, U, U, U, U, U, U, U, U, U, U, U, U, U, U, U, U, U, U], mem := [.live { segs := [.xs b16 256 y.2.2.1], own := .own }, .live { segs := [.xs b16 256 y.2.2.2.1], own := .own }, .live { segs := [.xs b16 128 y.2.2.2.2.1], own := .own }] }
noncomputable def p_ring_Ntt_l8_L (N : Nat) : LT := upd (p_ring_Ntt_l11_L N) 8 (loopE p_ring_Ntt_l8_S N (p_ring_Ntt_l8_F N) p_ring_Ntt_l8_go)
theorem p_ring_Ntt_l8_ok (N : Nat) : OkAll p_ring_Ntt_E p_ring_Ntt_H N (p_ring_Ntt_l8_L N) (subs p_ring_Ntt_c) :=
  addLoop (c := theLoop 8 p_ring_Ntt_c) (p_ring_Ntt_l11_ok N) (by kernel_rfl) (fun x => by kernel_rfl) (fun β x kn ke => by kernel_rfl)
noncomputable def p_ring_Ntt_l5_S : Shape where
  h := { tmps := [V, .sc (.ptr 0 0 false), .sc (.ptr 1 0 false), .sc (.ptr 2 0 false), .sc (.int .i64), .sc (.int .i64), V, V, V, V, V, V, V, V, V, V, V, V, V, V, V, V, V, V, V, V, V, V, V, V, V, V, V, V, V, V, V, V, V, V, V, V, V, V, V, V, V, V, V, V, V, V, V, V, V, V, V, V, V, V, V], mem := [.live [.xs b16 (some 256)] (.own), .live [.xs b16 (some 256)] (.own), .live [.xs b16 (some 128)] (.own)] }
  ks := [.int, .int, .xs, .xs, .xs]
  st := fun x => { tmps := [U, .one (.sc (.ptr 0 0 none)), .one (.sc (.ptr 1 0 none)), .one (.sc (.ptr 2 0 none)), .one (.sc (.int .i64 x.1)), .one (.sc (.int .i64 x.2.1)), U, U, U, U, U, U, U, U, U, U, U, U, U, U, U, U, U, U, U, U, U, U, U, U, U, U, U, U, U, U, U, U, U, U, U, U, U, U, U, U, U, U, U, U, U, U, U, U, U, U, U, U, U, U, U], mem := [.live { segs := [.xs b16 256 x.2.2.1], own := .own }, .live { segs := [.xs b16 256 x.2.2.2.1], own := .own }, .live { segs := [.xs b16 128 x.2.2.2.2.1], own := .own }] }
noncomputable def p_ring_Ntt_l5_F (N : Nat) (β : Type) (x : (Int × Int × List Int × List Int × List Int × Unit)) (kn : (Int × Int × List Int × List Int × List Int × Unit) → Option β) (ke : ((List Int × List Int × Unit)) → Option β) : Option β :=
  if (x.2.1 ≥ (2:Int)) then
    iter (p_ring_Ntt_l8_F N) N (x.1, x.2.1, (0:Int), x.2.2.1, x.2.2.2.1, x.2.2.2.2.1, ()) fun y5 => (
    kn (y5.1, (IntKind.i64.wrap (Int.tdiv y5.2.1 (2:Int))), y5.2.2.1, y5.2.2.2.1, y5.2.2.2.2.1, ()))
  else
    ke (x.2.2.1, x.2.2.2.1, ())
noncomputable def p_ring_Ntt_l5_go : Go' ((List Int × List Int × Unit)) := fun y K => K (.exit 0) { tmps := [U, .one (.sc (.ptr 0 0 none)), .one (.sc (.ptr 1 0 none)), U, U, U, U, U, U, U, U, U, U, U, U, U, U, U, U, U, U, U, U, U, U, U, U, U, U, U, U, U, U, U, U, U, U, U, U, U, U, U, U, U, U, U, U, U, U, U, U, U, U, U, U, U, U, U, U, U, U], mem := [.live { segs := [.xs b16 256 y.1], own := .own }, .live { segs := [.xs b16 256 y.2.1], own := .own }] }
noncomputable def p_ring_Ntt_l5_L (N : Nat) : LT := upd (p_ring_Ntt_l8_L N) 5 (loopE p_ring_Ntt_l5_S N (p_ring_Ntt_l5_F N) p_ring_Ntt_l5_go)
theorem p_ring_Ntt_l5_ok (N : Nat) : OkAll p_ring_Ntt_E p_ring_Ntt_H N (p_ring_Ntt_l5_L N) (subs p_ring_Ntt_c) :=
  addLoop (c := theLoop 5 p_ring_Ntt_c) (p_ring_Ntt_l8_ok N) (by kernel_rfl) (fun x => by kernel_rfl) (fun β x kn ke => by kernel_rfl)
abbrev p_ring_Ntt_ks : List Kd := [.xs b16 256]
abbrev p_ring_Ntt_rs : List Kd := [.xs b16 256]
noncomputable def p_ring_Ntt (N : Nat) (x : List Int × Unit) : Option (List Int) :=
  (g_ring_Reduce (x.1, ())).bind fun r1 => (
  (g_ring_powers (())).bind fun r2 => (
  iter (p_ring_Ntt_l5_F N) N ((1:Int), (128:Int), r1, (List.replicate 256 0), r2, ()) fun y6 => (
  some y6.1)))
theorem p_ring_Ntt_eq (N : Nat) (x : Ds [.xs b16 256]) : funL p_ring_Ntt_E p_ring_Ntt_H (p_ring_Ntt_l5_L N) N Try.f55 p_ring_Ntt_c [.xs b16 256] [.xs b16 256] x = p_ring_Ntt N x := by kernel_rfl
theorem p_ring_Ntt_Eok (e0 : SigOk Try.prog 41 Z_ring_Reduce) (e1 : SigOk Try.prog 63 Z_ring_powers) (e2 : SigOk Try.prog 64 Z_ring_times) : p_ring_Ntt_E.Ok Try.prog := AE.of_ok (all_cons ty23_ok (all_cons ty61_ok (all_cons ty98_ok all_nil))) (all_cons ⟨e0, enters_ring_Reduce⟩ (all_cons ⟨e1, enters_ring_powers⟩ (all_cons ⟨e2, enters_ring_times⟩ all_nil)))
theorem p_ring_Ntt_ok (e0 : SigOk Try.prog 41 Z_ring_Reduce) (e1 : SigOk Try.prog 63 Z_ring_powers) (e2 : SigOk Try.prog 64 Z_ring_times) {g : Ds [.xs b16 256] → Option (Rs [.xs b16 256])} (hg : ∀ x r, g x = some r → ∃ N, p_ring_Ntt N x = some r) : SigOk Try.prog 55 ⟨[.xs b16 256], [.xs b16 256], g⟩ :=
  fun_of (E := p_ring_Ntt_E) (H := p_ring_Ntt_H) (L := fun N => p_ring_Ntt_l5_L N) (c := p_ring_Ntt_c) (ks := p_ring_Ntt_ks) (rs := p_ring_Ntt_rs) (F := p_ring_Ntt) (p_ring_Ntt_Eok e0 e1 e2) mix Try.func55 (by kernel_rfl) (fun N => p_ring_Ntt_l5_ok N) p_ring_Ntt_eq hg
noncomputable def p_ring_MulNtt_E : AE := AE.of [(23, ty23), (61, ty61), (98, ty98)] [(41, Z_ring_Reduce), (63, Z_ring_powers), (64, Z_ring_times)]
noncomputable def p_ring_MulNtt_H : Hints := [(5, [2, 3, 4, 5, 6, 18]), (2000000, [4, 6]), (2000001, [2, 3, 4, 5, 6, 18]), (3000000, [4])]
noncomputable def p_ring_MulNtt_c : Code := (Try.f58).body.getD .skip
noncomputable def p_ring_MulNtt_l5_S : Shape where
  h := { tmps := [V, V, .sc (.ptr 0 0 false), .sc (.ptr 1 0 false), .sc (.ptr 2 0 false), .sc (.ptr 3 0 false), .sc (.ptr 4 0 false), V, V, V, V, V, V, V, V, V, V, V, .sc (.int .i64), V, V, V, V, V, V, V, V, V, V, V, V, V, V, V, V, V, V, V, V, V, V, V, V, V, V, V, V, V, V, V, V, V, V, V, V, V, V, V, V, V, V, V, V, V, V, V, V, V, V, V, V, V, V, V], mem := [.live [.xs b16 (some 256)] (.own), .live [.xs b16 (some 256)] (.own), .live [.xs b16 (some 256)] (.own), .live [.xs b16 (some 128)] (.own), .live [.xs b16 (some 256)] (.own)] }
  ks := [.int, .xs, .xs, .xs, .xs, .xs]
  st := fun x => { tmps := [U, U, .one (.sc (.ptr 0 0 none)), .one (.sc (.ptr 1 0 none)), .one (.sc (.ptr 2 0 none)), .one (.sc (.ptr 3 0 none)), .one (.sc (.ptr 4 0 none)), U, U, U, U, U, U, U, U, U, U, U, .one (.sc (.int .i64 x.1)), U, U, U, U, U, U, U, U, U, U, U, U, U, U, U, U, U, U, U, U, U, U, U, U, U, U, U, U, U, U, U, U, U, U, U, U, U, U, U, U, U, U, U, U, U, U, U, U, U, U, U, U, U, U, U], mem := [.live { segs := [.xs b16 256 x.2.1], own := .own }, .live { segs := [.xs b16 256 x.2.2.1], own := .own }, .live { segs := [.xs b16 256 x.2.2.2.1], own := .own }, .live { segs := [.xs b16 128 x.2.2.2.2.1], own := .own }, .live { segs := [.xs b16 256 x.2.2.2.2.2.1], own := .own }] }
noncomputable def p_ring_MulNtt_l5_F (N : Nat) (β : Type) (x : (Int × List Int × List Int × List Int × List Int × List Int × Unit)) (kn : (Int × List Int × List Int × List Int × List Int × List Int × Unit) → Option β) (ke : ((List Int × List Int × Unit)) → Option β) : Option β :=
  if (x.1 < (128:Int)) then
    if 0 ≤ x.1 then (
    if x.1 < 128 then (
    if (x.1.toNat) < 128 then (
    if 0 ≤ x.1 then (
    if x.1 < 128 then (
    if (x.1.toNat) < 128 then (
    (g_ring_times ((List.getD x.2.2.2.2.1 (x.1.toNat) 0), (List.getD x.2.2.2.2.1 (x.1.toNat) 0), ())).bind fun r4 => (
    (g_ring_times (r4, (17:Int), ())).bind fun r5 => (
    if 0 ≤ (IntKind.i64.wrap ((2:Int) * x.1)) then (
    if (IntKind.i64.wrap ((2:Int) * x.1)) < 256 then (
    if ((IntKind.i64.wrap ((2:Int) * x.1)).toNat) < 256 then (
    if 0 ≤ (IntKind.i64.wrap ((IntKind.i64.wrap ((2:Int) * x.1)) + (1:Int))) then (
    if (IntKind.i64.wrap ((IntKind.i64.wrap ((2:Int) * x.1)) + (1:Int))) < 256 then (
    if ((IntKind.i64.wrap ((IntKind.i64.wrap ((2:Int) * x.1)) + (1:Int))).toNat) < 256 then (
    if 0 ≤ (IntKind.i64.wrap ((2:Int) * x.1)) then (
    if (IntKind.i64.wrap ((2:Int) * x.1)) < 256 then (
    if ((IntKind.i64.wrap ((2:Int) * x.1)).toNat) < 256 then (
    if 0 ≤ (IntKind.i64.wrap ((IntKind.i64.wrap ((2:Int) * x.1)) + (1:Int))) then (
    if (IntKind.i64.wrap ((IntKind.i64.wrap ((2:Int) * x.1)) + (1:Int))) < 256 then (
    if ((IntKind.i64.wrap ((IntKind.i64.wrap ((2:Int) * x.1)) + (1:Int))).toNat) < 256 then (
    (g_ring_times ((List.getD x.2.1 ((IntKind.i64.wrap ((2:Int) * x.1)).toNat) 0), (List.getD x.2.2.1 ((IntKind.i64.wrap ((2:Int) * x.1)).toNat) 0), ())).bind fun r6 => (
    (g_ring_times ((List.getD x.2.1 ((IntKind.i64.wrap ((IntKind.i64.wrap ((2:Int) * x.1)) + (1:Int))).toNat) 0), (List.getD x.2.2.1 ((IntKind.i64.wrap ((IntKind.i64.wrap ((2:Int) * x.1)) + (1:Int))).toNat) 0), ())).bind fun r7 => (
    (g_ring_times (r7, r5, ())).bind fun r8 => (
    if 0 ≤ (IntKind.i64.wrap ((2:Int) * x.1)) then (
    if (IntKind.i64.wrap ((2:Int) * x.1)) < 256 then (
    if ((IntKind.i64.wrap ((2:Int) * x.1)).toNat) < 256 then (
    (g_ring_times ((List.getD x.2.1 ((IntKind.i64.wrap ((2:Int) * x.1)).toNat) 0), (List.getD x.2.2.1 ((IntKind.i64.wrap ((IntKind.i64.wrap ((2:Int) * x.1)) + (1:Int))).toNat) 0), ())).bind fun r9 => (
    (g_ring_times ((List.getD x.2.1 ((IntKind.i64.wrap ((IntKind.i64.wrap ((2:Int) * x.1)) + (1:Int))).toNat) 0), (List.getD x.2.2.1 ((IntKind.i64.wrap ((2:Int) * x.1)).toNat) 0), ())).bind fun r10 => (
    if 0 ≤ (IntKind.i64.wrap ((IntKind.i64.wrap ((2:Int) * x.1)) + (1:Int))) then (
    if (IntKind.i64.wrap ((IntKind.i64.wrap ((2:Int) * x.1)) + (1:Int))) < 256 then (
    if ((IntKind.i64.wrap ((IntKind.i64.wrap ((2:Int) * x.1)) + (1:Int))).toNat) < 256 then (
    kn ((IntKind.i64.wrap (x.1 + (1:Int))), x.2.1, x.2.2.1, x.2.2.2.1, x.2.2.2.2.1, (List.set (List.set x.2.2.2.2.2.1 ((IntKind.i64.wrap ((2:Int) * x.1)).toNat) (Int.tmod (IntKind.u16.wrap (r6 + r8)) (3329:Int))) ((IntKind.i64.wrap ((IntKind.i64.wrap ((2:Int) * x.1)) + (1:Int))).toNat) (Int.tmod (IntKind.u16.wrap (r9 + r10)) (3329:Int))), ())) else none) else none) else none))) else none) else none) else none)))) else none) else none) else none) else none) else none) else none) else none) else none) else none) else none) else none) else none))) else none) else none) else none) else none) else none) else none
  else
    ke (x.2.2.2.1, x.2.2.2.2.2.1, ())
noncomputable def p_ring_MulNtt_l5_go : Go' ((List Int × List Int × Unit)) := fun y K => K (.exit 0) { tmps := [U, U, U, U, .one (.sc (.ptr 0 0 none)), U, .one (.sc (.ptr 1 0 none)), U, U, U, U, U, U, U, U, U, U, U, U, U, U, U, U, U, U, U, U, U, U, U, U, U, U, U, U, U, U, U, U, U, U, U, U, U, U, U, U, U, U, U, U, U, U, U, U, U, U, U, U, U, U, U, U, U, U, U, U, U, U, U, U, U, U, U], mem := [.live { segs := [.xs b16 256 y.1], own := .own }, .live { segs := [.xs b16 256 y.2.1], own := .own }] }
noncomputable def p_ring_MulNtt_l5_L (N : Nat) : LT := upd (LT.nil) 5 (loopE p_ring_MulNtt_l5_S N (p_ring_MulNtt_l5_F N) p_ring_MulNtt_l5_go)
theorem p_ring_MulNtt_l5_ok (N : Nat) : OkAll p_ring_MulNtt_E p_ring_MulNtt_H N (p_ring_MulNtt_l5_L N) (subs p_ring_MulNtt_c) :=
  addLoop (c := theLoop 5 p_ring_MulNtt_c) (OkAll.nil) (by kernel_rfl) (fun x => by kernel_rfl) (fun β x kn ke => by kernel_rfl)
abbrev p_ring_MulNtt_ks : List Kd := [.xs b16 256, .xs b16 256]
abbrev p_ring_MulNtt_rs : List Kd := [.xs b16 256]
noncomputable def p_ring_MulNtt (N : Nat) (x : List Int × List Int × Unit) : Option (List Int) :=
  (g_ring_Reduce (x.1, ())).bind fun r1 => (
  (g_ring_Reduce (x.2.1, ())).bind fun r2 => (
  (g_ring_powers (())).bind fun r3 => (
  iter (p_ring_MulNtt_l5_F N) N ((0:Int), r1, r2, (List.replicate 256 0), r3, (List.replicate 256 0), ()) fun y11 => (
  some y11.2.1))))
theorem p_ring_MulNtt_eq (N : Nat) (x : Ds [.xs b16 256, .xs b16 256]) : funL p_ring_MulNtt_E p_ring_MulNtt_H (p_ring_MulNtt_l5_L N) N Try.f58 p_ring_MulNtt_c [.xs b16 256, .xs b16 256] [.xs b16 256] x = p_ring_MulNtt N x := by kernel_rfl
theorem p_ring_MulNtt_Eok (e0 : SigOk Try.prog 41 Z_ring_Reduce) (e1 : SigOk Try.prog 63 Z_ring_powers) (e2 : SigOk Try.prog 64 Z_ring_times) : p_ring_MulNtt_E.Ok Try.prog := AE.of_ok (all_cons ty23_ok (all_cons ty61_ok (all_cons ty98_ok all_nil))) (all_cons ⟨e0, enters_ring_Reduce⟩ (all_cons ⟨e1, enters_ring_powers⟩ (all_cons ⟨e2, enters_ring_times⟩ all_nil)))
theorem p_ring_MulNtt_ok (e0 : SigOk Try.prog 41 Z_ring_Reduce) (e1 : SigOk Try.prog 63 Z_ring_powers) (e2 : SigOk Try.prog 64 Z_ring_times) {g : Ds [.xs b16 256, .xs b16 256] → Option (Rs [.xs b16 256])} (hg : ∀ x r, g x = some r → ∃ N, p_ring_MulNtt N x = some r) : SigOk Try.prog 58 ⟨[.xs b16 256, .xs b16 256], [.xs b16 256], g⟩ :=
  fun_of (E := p_ring_MulNtt_E) (H := p_ring_MulNtt_H) (L := fun N => p_ring_MulNtt_l5_L N) (c := p_ring_MulNtt_c) (ks := p_ring_MulNtt_ks) (rs := p_ring_MulNtt_rs) (F := p_ring_MulNtt) (p_ring_MulNtt_Eok e0 e1 e2) mix Try.func58 (by kernel_rfl) (fun N => p_ring_MulNtt_l5_ok N) p_ring_MulNtt_eq hg
noncomputable def p_ring_Inv_E : AE := AE.of [(23, ty23), (61, ty61), (98, ty98)] [(41, Z_ring_Reduce), (63, Z_ring_powers), (64, Z_ring_times)]
noncomputable def p_ring_Inv_H : Hints := [(5, [1, 2, 3, 4, 5]), (8, [1, 2, 3, 4, 5, 6]), (11, [1, 2, 3, 4, 5, 6, 7]), (17, [1, 2, 61]), (2000000, [1, 2]), (2000001, [1, 2, 3, 4, 5]), (2000002, [1, 2, 3, 4, 5]), (2000003, [1, 2, 3, 4, 5, 6]), (2000004, [1, 2, 3, 4, 5, 6]), (2000005, [1, 2, 3, 4, 5, 6, 7]), (2000006, [1, 2]), (2000007, [1, 2, 61]), (3000000, [2])]
noncomputable def p_ring_Inv_c : Code := (Try.f43).body.getD .skip
noncomputable def p_ring_Inv_l11_S : Shape where
  h := { tmps := [V, .sc (.ptr 0 0 false), .sc (.ptr 1 0 false), .sc (.ptr 2 0 false), .sc (.int .i64), .sc (.int .i64), .sc (.int .i64), .sc (.int .i64), V, V, V, V, V, V, V, V, V, V, V, V, V, V, V, V, V, V, V, V, V, V, V, V, V, V, V, V, V, V, V, V, V, V, V, V, V, V, V, V, V, V, V, V, V, V, V, V, V, V, V, V, V, V, V, V, V, V, V, V, V, V, V, V], mem := [.live [.xs b16 (some 256)] (.own), .live [.xs b16 (some 256)] (.own), .live [.xs b16 (some 128)] (.own)] }
  ks := [.int, .int, .int, .int, .xs, .xs, .xs]
  st := fun x => { tmps := [U, .one (.sc (.ptr 0 0 none)), .one (.sc (.ptr 1 0 none)), .one (.sc (.ptr 2 0 none)), .one (.sc (.int .i64 x.1)), .one (.sc (.int .i64 x.2.1)), .one (.sc (.int .i64 x.2.2.1)), .one (.sc (.int .i64 x.2.2.2.1)), U, U, U, U, U, U, U, U, U, U, U, U, U, U, U, U, U, U, U, U, U, U, U, U, U, U, U, U, U, U, U, U, U, U, U, U, U, U, U, U, U, U, U, U, U, U, U, U, U, U, U, U, U, U, U, U, U, U, U, U, U, U, U, U], mem := [.live { segs := [.xs b16 256 x.2.2.2.2.1], own := .own }, .live { segs := [.xs b16 256 x.2.2.2.2.2.1], own := .own }, .live { segs := [.xs b16 128 x.2.2.2.2.2.2.1], own := .own }] }
noncomputable def p_ring_Inv_l11_F (N : Nat) (β : Type) (x : (Int × Int × Int × Int × List Int × List Int × List Int × Unit)) (kn : (Int × Int × Int × Int × List Int × List Int × List Int × Unit) → Option β) (ke : ((Int × Int × Int × List Int × List Int × List Int × Unit)) → Option β) : Option β :=
  if (x.2.2.2.1 < (IntKind.i64.wrap (x.2.2.1 + x.2.1))) then
    if 0 ≤ x.2.2.2.1 then (
    if x.2.2.2.1 < 256 then (
    if (x.2.2.2.1.toNat) < 256 then (
    if 0 ≤ (IntKind.i64.wrap (x.2.2.2.1 + x.2.1)) then (
    if (IntKind.i64.wrap (x.2.2.2.1 + x.2.1)) < 256 then (
    if ((IntKind.i64.wrap (x.2.2.2.1 + x.2.1)).toNat) < 256 then (
    if 0 ≤ x.1 then (
    if x.1 < 128 then (
    if (x.1.toNat) < 128 then (
    (g_ring_times ((List.getD x.2.2.2.2.2.2.1 (x.1.toNat) 0), (Int.tmod (IntKind.u16.wrap ((IntKind.u16.wrap ((List.getD x.2.2.2.2.1 ((IntKind.i64.wrap (x.2.2.2.1 + x.2.1)).toNat) 0) + (3329:Int))) - (List.getD x.2.2.2.2.1 (x.2.2.2.1.toNat) 0))) (3329:Int)), ())).bind fun r3 => (
    if 0 ≤ x.2.2.2.1 then (
    if x.2.2.2.1 < 256 then (
    if (x.2.2.2.1.toNat) < 256 then (
    if 0 ≤ (IntKind.i64.wrap (x.2.2.2.1 + x.2.1)) then (
    if (IntKind.i64.wrap (x.2.2.2.1 + x.2.1)) < 256 then (
    if ((IntKind.i64.wrap (x.2.2.2.1 + x.2.1)).toNat) < 256 then (
    kn (x.1, x.2.1, x.2.2.1, (IntKind.i64.wrap (x.2.2.2.1 + (1:Int))), (List.set (List.set x.2.2.2.2.1 (x.2.2.2.1.toNat) (Int.tmod (IntKind.u16.wrap ((List.getD x.2.2.2.2.1 (x.2.2.2.1.toNat) 0) + (List.getD x.2.2.2.2.1 ((IntKind.i64.wrap (x.2.2.2.1 + x.2.1)).toNat) 0))) (3329:Int))) ((IntKind.i64.wrap (x.2.2.2.1 + x.2.1)).toNat) r3), x.2.2.2.2.2.1, x.2.2.2.2.2.2.1, ())) else none) else none) else none) else none) else none) else none)) else none) else none) else none) else none) else none) else none) else none) else none) else none
  else
    ke (x.1, x.2.1, x.2.2.1, x.2.2.2.2.1, x.2.2.2.2.2.1, x.2.2.2.2.2.2.1, ())
noncomputable def p_ring_Inv_l11_go : Go' ((Int × Int × Int × List Int × List Int × List Int × Unit)) := fun y K => K (.exit 4) { tmps := [U, .one (.sc (.ptr 0 0 none)), .one (.sc (.ptr 1 0 none)), .one (.sc (.ptr 2 0 none)), .one (.sc (.int .i64 y.1)), .one (.sc (.int .i64 y.2.1)), .one (.sc (.int .i64 y.2.2.1)), U, U, U, U, U, U, U, U, U, U, U, U, U, U, U, U, U, U, U, U, U, U, U, U, U, U, U, U, U, U, U, U, U, U, U, U, U, U, U, U, U, U, U, U, U, U, U, U, U, U, U, U, U, U, U, U, U, U, U, U, U, U, U, U, U], mem := [.live { segs := [.xs b16 256 y.2.2.2.1], own := .own }, .live { segs := [.xs b16 256 y.2.2.2.2.1], own := .own }, .live { segs := [.xs b16 128 y.2.2.2.2.2.1], own := .own }] }
noncomputable def p_ring_Inv_l11_L (N : Nat) : LT := upd (LT.nil) 11 (loopE p_ring_Inv_l11_S N (p_ring_Inv_l11_F N) p_ring_Inv_l11_go)
theorem p_ring_Inv_l11_ok (N : Nat) : OkAll p_ring_Inv_E p_ring_Inv_H N (p_ring_Inv_l11_L N) (subs p_ring_Inv_c) :=
  addLoop (c := theLoop 11 p_ring_Inv_c) (OkAll.nil) (by kernel_rfl) (fun x => by kernel_rfl) (fun β x kn ke => by kernel_rfl)
noncomputable def p_ring_Inv_l8_S : Shape where
  h := { tmps := [V, .sc (.ptr 0 0 false), .sc (.ptr 1 0 false), .sc (.ptr 2 0 false), .sc (.int .i64), .sc (.int .i64), .sc (.int .i64), V, V, V, V, V, V, V, V, V, V, V, V, V, V, V, V, V, V, V, V, V, V, V, V, V, V, V, V, V, V, V, V, V, V, V, V, V, V, V, V, V, V, V, V, V, V, V, V, V, V, V, V, V, V, V, V, V, V, V, V, V, V, V, V, V], mem := [.live [.xs b16 (some 256)] (.own), .live [.xs b16 (some 256)] (.own), .live [.xs b16 (some 128)] (.own)] }
  ks := [.int, .int, .int, .xs, .xs, .xs]
  st := fun x => { tmps := [U, .one (.sc (.ptr 0 0 none)), .one (.sc (.ptr 1 0 none)), .one (.sc (.ptr 2 0 none)), .one (.sc (.int .i64 x.1)), .one (.sc (.int .i64 x.2.1)), .one (.sc (.int .i64 x.2.2.1)), U, U, U, U, U, U, U, U, U, U, U, U, U, U, U, U, U, U, U, U, U, U, U, U, U, U, U, U, U, U, U, U, U, U, U, U, U, U, U, U, U, U, U, U, U, U, U, U, U, U, U, U, U, U, U, U, U, U, U, U, U, U, U, U, U], mem := [.live { segs := [.xs b16 256 x.2.2.2.1], own := .own }, .live { segs := [.xs b16 256 x.2.2.2.2.1], own := .own }, .live { segs := [.xs b16 128 x.2.2.2.2.2.1], own := .own }] }
noncomputable def p_ring_Inv_l8_F (N : Nat) (β : Type) (x : (Int × Int × Int × List Int × List Int × List Int × Unit)) (kn : (Int × Int × Int × List Int × List Int × List Int × Unit) → Option β) (ke : ((Int × Int × List Int × List Int × List Int × Unit)) → Option β) : Option β :=
  if (x.2.2.1 < (256:Int)) then
    iter (p_ring_Inv_l11_F N) N (x.1, x.2.1, x.2.2.1, x.2.2.1, x.2.2.2.1, x.2.2.2.2.1, x.2.2.2.2.2.1, ()) fun y4 => (
    kn ((IntKind.i64.wrap (y4.1 - (1:Int))), y4.2.1, (IntKind.i64.wrap (y4.2.2.1 + (IntKind.i64.wrap ((2:Int) * y4.2.1)))), y4.2.2.2.1, y4.2.2.2.2.1, y4.2.2.2.2.2.1, ()))
  else
    ke (x.1, x.2.1, x.2.2.2.1, x.2.2.2.2.1, x.2.2.2.2.2.1, ())
noncomputable def p_ring_Inv_l8_go : Go' ((Int × Int × List Int × List Int × List Int × Unit)) := fun y K => K (.exit 2) { tmps := [U, .one (.sc (.ptr 0 0 none)), .one (.sc (.ptr 1 0 none)), .one (.sc (.ptr 2 0 none)), .one (.sc (.int .i64 y.1)), .one (.sc (.int .i64 y.2.1)), U, U, U, U, U, U, U, U, U, U, U, U, U, U, U, U, U, U, U, U, U, U, U, U, U, U, U, U, U, U, U, U, U, U, U, U, U, U, U, U, U, U, U, U, U, U, U, U, U, U, U, U, U, U, U, U, U, U, U, U, U, U, U, U, U, U], mem := [.live { segs := [.xs b16 256 y.2.2.1], own := .own }, .live { segs := [.xs b16 256 y.2.2.2.1], own := .own }, .live { segs := [.xs b16 128 y.2.2.2.2.1], own := .own }] }
noncomputable def p_ring_Inv_l8_L (N : Nat) : LT := upd (p_ring_Inv_l11_L N) 8 (loopE p_ring_Inv_l8_S N (p_ring_Inv_l8_F N) p_ring_Inv_l8_go)
theorem p_ring_Inv_l8_ok (N : Nat) : OkAll p_ring_Inv_E p_ring_Inv_H N (p_ring_Inv_l8_L N) (subs p_ring_Inv_c) :=
  addLoop (c := theLoop 8 p_ring_Inv_c) (p_ring_Inv_l11_ok N) (by kernel_rfl) (fun x => by kernel_rfl) (fun β x kn ke => by kernel_rfl)
noncomputable def p_ring_Inv_l5_S : Shape where
  h := { tmps := [V, .sc (.ptr 0 0 false), .sc (.ptr 1 0 false), .sc (.ptr 2 0 false), .sc (.int .i64), .sc (.int .i64), V, V, V, V, V, V, V, V, V, V, V, V, V, V, V, V, V, V, V, V, V, V, V, V, V, V, V, V, V, V, V, V, V, V, V, V, V, V, V, V, V, V, V, V, V, V, V, V, V, V, V, V, V, V, V, V, V, V, V, V, V, V, V, V, V, V], mem := [.live [.xs b16 (some 256)] (.own), .live [.xs b16 (some 256)] (.own), .live [.xs b16 (some 128)] (.own)] }
  ks := [.int, .int, .xs, .xs, .xs]
  st := fun x => { tmps := [U, .one (.sc (.ptr 0 0 none)), .one (.sc (.ptr 1 0 none)), .one (.sc (.ptr 2 0 none)), .one (.sc (.int .i64 x.1)), .one (.sc (.int .i64 x.2.1)), U, U, U, U, U, U, U, U, U, U, U, U, U, U, U, U, U, U, U, U, U, U, U, U, U, U, U, U, U, U, U, U, U, U, U, U, U, U, U, U, U, U, U, U, U, U, U, U, U, U, U, U, U, U, U, U, U, U, U, U, U, U, U, U, U, U], mem := [.live { segs := [.xs b16 256 x.2.2.1], own := .own }, .live { segs := [.xs b16 256 x.2.2.2.1], own := .own }, .live { segs := [.xs b16 128 x.2.2.2.2.1], own := .own }] }
noncomputable def p_ring_Inv_l5_F (N : Nat) (β : Type) (x : (Int × Int × List Int × List Int × List Int × Unit)) (kn : (Int × Int × List Int × List Int × List Int × Unit) → Option β) (ke : ((List Int × List Int × Unit)) → Option β) : Option β :=
  if (x.2.1 ≤ (128:Int)) then
    iter (p_ring_Inv_l8_F N) N (x.1, x.2.1, (0:Int), x.2.2.1, x.2.2.2.1, x.2.2.2.2.1, ()) fun y5 => (
    kn (y5.1, (IntKind.i64.wrap (y5.2.1 * (2:Int))), y5.2.2.1, y5.2.2.2.1, y5.2.2.2.2.1, ()))
  else
    ke (x.2.2.1, x.2.2.2.1, ())
noncomputable def p_ring_Inv_l5_go : Go' ((List Int × List Int × Unit)) := fun y K => K (.exit 0) { tmps := [U, .one (.sc (.ptr 0 0 none)), .one (.sc (.ptr 1 0 none)), U, U, U, U, U, U, U, U, U, U, U, U, U, U, U, U, U, U, U, U, U, U, U, U, U, U, U, U, U, U, U, U, U, U, U, U, U, U, U, U, U, U, U, U, U, U, U, U, U, U, U, U, U, U, U, U, U, U, U, U, U, U, U, U, U, U, U, U, U], mem := [.live { segs := [.xs b16 256 y.1], own := .own }, .live { segs := [.xs b16 256 y.2.1], own := .own }] }
noncomputable def p_ring_Inv_l5_L (N : Nat) : LT := upd (p_ring_Inv_l8_L N) 5 (loopE p_ring_Inv_l5_S N (p_ring_Inv_l5_F N) p_ring_Inv_l5_go)
theorem p_ring_Inv_l5_ok (N : Nat) : OkAll p_ring_Inv_E p_ring_Inv_H N (p_ring_Inv_l5_L N) (subs p_ring_Inv_c) :=
  addLoop (c := theLoop 5 p_ring_Inv_c) (p_ring_Inv_l8_ok N) (by kernel_rfl) (fun x => by kernel_rfl) (fun β x kn ke => by kernel_rfl)
noncomputable def p_ring_Inv_l17_S : Shape where
  h := { tmps := [V, .sc (.ptr 0 0 false), .sc (.ptr 1 0 false), V, V, V, V, V, V, V, V, V, V, V, V, V, V, V, V, V, V, V, V, V, V, V, V, V, V, V, V, V, V, V, V, V, V, V, V, V, V, V, V, V, V, V, V, V, V, V, V, V, V, V, V, V, V, V, V, V, V, .sc (.int .i64), V, V, V, V, V, V, V, V, V, V], mem := [.live [.xs b16 (some 256)] (.own), .live [.xs b16 (some 256)] (.own)] }
  ks := [.int, .xs, .xs]
  st := fun x => { tmps := [U, .one (.sc (.ptr 0 0 none)), .one (.sc (.ptr 1 0 none)), U, U, U, U, U, U, U, U, U, U, U, U, U, U, U, U, U, U, U, U, U, U, U, U, U, U, U, U, U, U, U, U, U, U, U, U, U, U, U, U, U, U, U, U, U, U, U, U, U, U, U, U, U, U, U, U, U, U, .one (.sc (.int .i64 x.1)), U, U, U, U, U, U, U, U, U, U], mem := [.live { segs := [.xs b16 256 x.2.1], own := .own }, .live { segs := [.xs b16 256 x.2.2.1], own := .own }] }
noncomputable def p_ring_Inv_l17_F (N : Nat) (β : Type) (x : (Int × List Int × List Int × Unit)) (kn : (Int × List Int × List Int × Unit) → Option β) (ke : ((List Int × List Int × Unit)) → Option β) : Option β :=
  if (x.1 < (256:Int)) then
    if 0 ≤ x.1 then (
    if x.1 < 256 then (
    if (x.1.toNat) < 256 then (
    (g_ring_times ((List.getD x.2.1 (x.1.toNat) 0), (3303:Int), ())).bind fun r7 => (
    if 0 ≤ x.1 then (
    if x.1 < 256 then (
    if (x.1.toNat) < 256 then (
    kn ((IntKind.i64.wrap (x.1 + (1:Int))), (List.set x.2.1 (x.1.toNat) r7), x.2.2.1, ())) else none) else none) else none)) else none) else none) else none
  else
    ke (x.2.1, x.2.2.1, ())
noncomputable def p_ring_Inv_l17_go : Go' ((List Int × List Int × Unit)) := fun y K => K (.exit 6) { tmps := [U, .one (.sc (.ptr 0 0 none)), .one (.sc (.ptr 1 0 none)), U, U, U, U, U, U, U, U, U, U, U, U, U, U, U, U, U, U, U, U, U, U, U, U, U, U, U, U, U, U, U, U, U, U, U, U, U, U, U, U, U, U, U, U, U, U, U, U, U, U, U, U, U, U, U, U, U, U, U, U, U, U, U, U, U, U, U, U, U], mem := [.live { segs := [.xs b16 256 y.1], own := .own }, .live { segs := [.xs b16 256 y.2.1], own := .own }] }
noncomputable def p_ring_Inv_l17_L (N : Nat) : LT := upd (p_ring_Inv_l5_L N) 17 (loopE p_ring_Inv_l17_S N (p_ring_Inv_l17_F N) p_ring_Inv_l17_go)
theorem p_ring_Inv_l17_ok (N : Nat) : OkAll p_ring_Inv_E p_ring_Inv_H N (p_ring_Inv_l17_L N) (subs p_ring_Inv_c) :=
  addLoop (c := theLoop 17 p_ring_Inv_c) (p_ring_Inv_l5_ok N) (by kernel_rfl) (fun x => by kernel_rfl) (fun β x kn ke => by kernel_rfl)
abbrev p_ring_Inv_ks : List Kd := [.xs b16 256]
abbrev p_ring_Inv_rs : List Kd := [.xs b16 256]
noncomputable def p_ring_Inv (N : Nat) (x : List Int × Unit) : Option (List Int) :=
  (g_ring_Reduce (x.1, ())).bind fun r1 => (
  (g_ring_powers (())).bind fun r2 => (
  iter (p_ring_Inv_l5_F N) N ((127:Int), (2:Int), r1, (List.replicate 256 0), r2, ()) fun y6 => (
  iter (p_ring_Inv_l17_F N) N ((0:Int), y6.1, y6.2.1, ()) fun y8 => (
  some y8.1))))
theorem p_ring_Inv_eq (N : Nat) (x : Ds [.xs b16 256]) : funL p_ring_Inv_E p_ring_Inv_H (p_ring_Inv_l17_L N) N Try.f43 p_ring_Inv_c [.xs b16 256] [.xs b16 256] x = p_ring_Inv N x := by kernel_rfl
theorem p_ring_Inv_Eok (e0 : SigOk Try.prog 41 Z_ring_Reduce) (e1 : SigOk Try.prog 63 Z_ring_powers) (e2 : SigOk Try.prog 64 Z_ring_times) : p_ring_Inv_E.Ok Try.prog := AE.of_ok (all_cons ty23_ok (all_cons ty61_ok (all_cons ty98_ok all_nil))) (all_cons ⟨e0, enters_ring_Reduce⟩ (all_cons ⟨e1, enters_ring_powers⟩ (all_cons ⟨e2, enters_ring_times⟩ all_nil)))
theorem p_ring_Inv_ok (e0 : SigOk Try.prog 41 Z_ring_Reduce) (e1 : SigOk Try.prog 63 Z_ring_powers) (e2 : SigOk Try.prog 64 Z_ring_times) {g : Ds [.xs b16 256] → Option (Rs [.xs b16 256])} (hg : ∀ x r, g x = some r → ∃ N, p_ring_Inv N x = some r) : SigOk Try.prog 43 ⟨[.xs b16 256], [.xs b16 256], g⟩ :=
  fun_of (E := p_ring_Inv_E) (H := p_ring_Inv_H) (L := fun N => p_ring_Inv_l17_L N) (c := p_ring_Inv_c) (ks := p_ring_Inv_ks) (rs := p_ring_Inv_rs) (F := p_ring_Inv) (p_ring_Inv_Eok e0 e1 e2) mix Try.func43 (by kernel_rfl) (fun N => p_ring_Inv_l17_ok N) p_ring_Inv_eq hg
noncomputable def p_ring_Add_E : AE := AE.of [(23, ty23), (61, ty61)] [(41, Z_ring_Reduce)]
noncomputable def p_ring_Add_H : Hints := [(3, [2, 3, 4, 10]), (2000000, [2, 4]), (2000001, [2, 3, 4, 10]), (3000000, [4])]
noncomputable def p_ring_Add_c : Code := (Try.f35).body.getD .skip
noncomputable def p_ring_Add_l3_S : Shape where
  h := { tmps := [V, V, .sc (.ptr 0 0 false), .sc (.ptr 1 0 false), .sc (.ptr 2 0 false), V, V, V, V, V, .sc (.int .i64), V, V, V, V, V, V, V, V, V, V, V, V, V, V], mem := [.live [.xs b16 (some 256)] (.own), .live [.xs b16 (some 256)] (.own), .live [.xs b16 (some 256)] (.own)] }
  ks := [.int, .xs, .xs, .xs]
  st := fun x => { tmps := [U, U, .one (.sc (.ptr 0 0 none)), .one (.sc (.ptr 1 0 none)), .one (.sc (.ptr 2 0 none)), U, U, U, U, U, .one (.sc (.int .i64 x.1)), U, U, U, U, U, U, U, U, U, U, U, U, U, U], mem := [.live { segs := [.xs b16 256 x.2.1], own := .own }, .live { segs := [.xs b16 256 x.2.2.1], own := .own }, .live { segs := [.xs b16 256 x.2.2.2.1], own := .own }] }
noncomputable def p_ring_Add_l3_F (N : Nat) (β : Type) (x : (Int × List Int × List Int × List Int × Unit)) (kn : (Int × List Int × List Int × List Int × Unit) → Option β) (ke : ((List Int × List Int × Unit)) → Option β) : Option β :=
  if (x.1 < (256:Int)) then
    if 0 ≤ x.1 then (
    if x.1 < 256 then (
    if (x.1.toNat) < 256 then (
    if 0 ≤ x.1 then (
    if x.1 < 256 then (
    if (x.1.toNat) < 256 then (
    if 0 ≤ x.1 then (
    if x.1 < 256 then (
    if (x.1.toNat) < 256 then (
    kn ((IntKind.i64.wrap (x.1 + (1:Int))), (List.set x.2.1 (x.1.toNat) (Int.tmod (IntKind.u16.wrap ((List.getD x.2.1 (x.1.toNat) 0) + (List.getD x.2.2.1 (x.1.toNat) 0))) (3329:Int))), x.2.2.1, x.2.2.2.1, ())) else none) else none) else none) else none) else none) else none) else none) else none) else none
  else
    ke (x.2.1, x.2.2.2.1, ())
noncomputable def p_ring_Add_l3_go : Go' ((List Int × List Int × Unit)) := fun y K => K (.exit 0) { tmps := [U, U, .one (.sc (.ptr 0 0 none)), U, .one (.sc (.ptr 1 0 none)), U, U, U, U, U, U, U, U, U, U, U, U, U, U, U, U, U, U, U, U], mem := [.live { segs := [.xs b16 256 y.1], own := .own }, .live { segs := [.xs b16 256 y.2.1], own := .own }] }
noncomputable def p_ring_Add_l3_L (N : Nat) : LT := upd (LT.nil) 3 (loopE p_ring_Add_l3_S N (p_ring_Add_l3_F N) p_ring_Add_l3_go)
theorem p_ring_Add_l3_ok (N : Nat) : OkAll p_ring_Add_E p_ring_Add_H N (p_ring_Add_l3_L N) (subs p_ring_Add_c) :=
  addLoop (c := theLoop 3 p_ring_Add_c) (OkAll.nil) (by kernel_rfl) (fun x => by kernel_rfl) (fun β x kn ke => by kernel_rfl)
abbrev p_ring_Add_ks : List Kd := [.xs b16 256, .xs b16 256]
abbrev p_ring_Add_rs : List Kd := [.xs b16 256]
noncomputable def p_ring_Add (N : Nat) (x : List Int × List Int × Unit) : Option (List Int) :=
  (g_ring_Reduce (x.1, ())).bind fun r1 => (
  (g_ring_Reduce (x.2.1, ())).bind fun r2 => (
  iter (p_ring_Add_l3_F N) N ((0:Int), r1, r2, (List.replicate 256 0), ()) fun y3 => (
  some y3.1)))
theorem p_ring_Add_eq (N : Nat) (x : Ds [.xs b16 256, .xs b16 256]) : funL p_ring_Add_E p_ring_Add_H (p_ring_Add_l3_L N) N Try.f35 p_ring_Add_c [.xs b16 256, .xs b16 256] [.xs b16 256] x = p_ring_Add N x := by kernel_rfl
theorem p_ring_Add_Eok (e0 : SigOk Try.prog 41 Z_ring_Reduce) : p_ring_Add_E.Ok Try.prog := AE.of_ok (all_cons ty23_ok (all_cons ty61_ok all_nil)) (all_cons ⟨e0, enters_ring_Reduce⟩ all_nil)
theorem p_ring_Add_ok (e0 : SigOk Try.prog 41 Z_ring_Reduce) {g : Ds [.xs b16 256, .xs b16 256] → Option (Rs [.xs b16 256])} (hg : ∀ x r, g x = some r → ∃ N, p_ring_Add N x = some r) : SigOk Try.prog 35 ⟨[.xs b16 256, .xs b16 256], [.xs b16 256], g⟩ :=
  fun_of (E := p_ring_Add_E) (H := p_ring_Add_H) (L := fun N => p_ring_Add_l3_L N) (c := p_ring_Add_c) (ks := p_ring_Add_ks) (rs := p_ring_Add_rs) (F := p_ring_Add) (p_ring_Add_Eok e0) mix Try.func35 (by kernel_rfl) (fun N => p_ring_Add_l3_ok N) p_ring_Add_eq hg
noncomputable def p_ring_Sub_E : AE := AE.of [(23, ty23), (61, ty61)] [(41, Z_ring_Reduce)]
noncomputable def p_ring_Sub_H : Hints := [(3, [2, 3, 4, 10]), (2000000, [2, 4]), (2000001, [2, 3, 4, 10]), (3000000, [4])]
noncomputable def p_ring_Sub_c : Code := (Try.f47).body.getD .skip
noncomputable def p_ring_Sub_l3_S : Shape where
  h := { tmps := [V, V, .sc (.ptr 0 0 false), .sc (.ptr 1 0 false), .sc (.ptr 2 0 false), V, V, V, V, V, .sc (.int .i64), V, V, V, V, V, V, V, V, V, V, V, V, V, V, V], mem := [.live [.xs b16 (some 256)] (.own), .live [.xs b16 (some 256)] (.own), .live [.xs b16 (some 256)] (.own)] }
  ks := [.int, .xs, .xs, .xs]
  st := fun x => { tmps := [U, U, .one (.sc (.ptr 0 0 none)), .one (.sc (.ptr 1 0 none)), .one (.sc (.ptr 2 0 none)), U, U, U, U, U, .one (.sc (.int .i64 x.1)), U, U, U, U, U, U, U, U, U, U, U, U, U, U, U], mem := [.live { segs := [.xs b16 256 x.2.1], own := .own }, .live { segs := [.xs b16 256 x.2.2.1], own := .own }, .live { segs := [.xs b16 256 x.2.2.2.1], own := .own }] }
noncomputable def p_ring_Sub_l3_F (N : Nat) (β : Type) (x : (Int × List Int × List Int × List Int × Unit)) (kn : (Int × List Int × List Int × List Int × Unit) → Option β) (ke : ((List Int × List Int × Unit)) → Option β) : Option β :=
  if (x.1 < (256:Int)) then
    if 0 ≤ x.1 then (
    if x.1 < 256 then (
    if (x.1.toNat) < 256 then (
    if 0 ≤ x.1 then (
    if x.1 < 256 then (
    if (x.1.toNat) < 256 then (
    if 0 ≤ x.1 then (
    if x.1 < 256 then (
    if (x.1.toNat) < 256 then (
    kn ((IntKind.i64.wrap (x.1 + (1:Int))), (List.set x.2.1 (x.1.toNat) (Int.tmod (IntKind.u16.wrap ((IntKind.u16.wrap ((List.getD x.2.1 (x.1.toNat) 0) + (3329:Int))) - (List.getD x.2.2.1 (x.1.toNat) 0))) (3329:Int))), x.2.2.1, x.2.2.2.1, ())) else none) else none) else none) else none) else none) else none) else none) else none) else none
  else
    ke (x.2.1, x.2.2.2.1, ())
noncomputable def p_ring_Sub_l3_go : Go' ((List Int × List Int × Unit)) := fun y K => K (.exit 0) { tmps := [U, U, .one (.sc (.ptr 0 0 none)), U, .one (.sc (.ptr 1 0 none)), U, U, U, U, U, U, U, U, U, U, U, U, U, U, U, U, U, U, U, U, U], mem := [.live { segs := [.xs b16 256 y.1], own := .own }, .live { segs := [.xs b16 256 y.2.1], own := .own }] }
noncomputable def p_ring_Sub_l3_L (N : Nat) : LT := upd (LT.nil) 3 (loopE p_ring_Sub_l3_S N (p_ring_Sub_l3_F N) p_ring_Sub_l3_go)
theorem p_ring_Sub_l3_ok (N : Nat) : OkAll p_ring_Sub_E p_ring_Sub_H N (p_ring_Sub_l3_L N) (subs p_ring_Sub_c) :=
  addLoop (c := theLoop 3 p_ring_Sub_c) (OkAll.nil) (by kernel_rfl) (fun x => by kernel_rfl) (fun β x kn ke => by kernel_rfl)
abbrev p_ring_Sub_ks : List Kd := [.xs b16 256, .xs b16 256]
abbrev p_ring_Sub_rs : List Kd := [.xs b16 256]
noncomputable def p_ring_Sub (N : Nat) (x : List Int × List Int × Unit) : Option (List Int) :=
  (g_ring_Reduce (x.1, ())).bind fun r1 => (
  (g_ring_Reduce (x.2.1, ())).bind fun r2 => (
  iter (p_ring_Sub_l3_F N) N ((0:Int), r1, r2, (List.replicate 256 0), ()) fun y3 => (
  some y3.1)))
theorem p_ring_Sub_eq (N : Nat) (x : Ds [.xs b16 256, .xs b16 256]) : funL p_ring_Sub_E p_ring_Sub_H (p_ring_Sub_l3_L N) N Try.f47 p_ring_Sub_c [.xs b16 256, .xs b16 256] [.xs b16 256] x = p_ring_Sub N x := by kernel_rfl
theorem p_ring_Sub_Eok (e0 : SigOk Try.prog 41 Z_ring_Reduce) : p_ring_Sub_E.Ok Try.prog := AE.of_ok (all_cons ty23_ok (all_cons ty61_ok all_nil)) (all_cons ⟨e0, enters_ring_Reduce⟩ all_nil)
theorem p_ring_Sub_ok (e0 : SigOk Try.prog 41 Z_ring_Reduce) {g : Ds [.xs b16 256, .xs b16 256] → Option (Rs [.xs b16 256])} (hg : ∀ x r, g x = some r → ∃ N, p_ring_Sub N x = some r) : SigOk Try.prog 47 ⟨[.xs b16 256, .xs b16 256], [.xs b16 256], g⟩ :=
  fun_of (E := p_ring_Sub_E) (H := p_ring_Sub_H) (L := fun N => p_ring_Sub_l3_L N) (c := p_ring_Sub_c) (ks := p_ring_Sub_ks) (rs := p_ring_Sub_rs) (F := p_ring_Sub) (p_ring_Sub_Eok e0) mix Try.func47 (by kernel_rfl) (fun N => p_ring_Sub_l3_ok N) p_ring_Sub_eq hg
noncomputable def p_ref01_Equal_E : AE := AE.of [(5, ty5), (9, ty9), (24, ty24)] []
noncomputable def p_ref01_Equal_H : Hints := [(3000000, [4])]
noncomputable def p_ref01_Equal_c : Code := (Try.f14).body.getD .skip
abbrev p_ref01_Equal_ks : List Kd := [.sl b8, .sl b8]
abbrev p_ref01_Equal_rs : List Kd := [.bool]
noncomputable def p_ref01_Equal (N : Nat) (x : List Int × List Int × Unit) : Option (Bool) :=
  some (decide ((strOfNums x.1) = (strOfNums x.2.1)))
theorem p_ref01_Equal_eq (N : Nat) (x : Ds [.sl b8, .sl b8]) : funL p_ref01_Equal_E p_ref01_Equal_H (LT.nil) N Try.f14 p_ref01_Equal_c [.sl b8, .sl b8] [.bool] x = p_ref01_Equal N x := by kernel_rfl
theorem p_ref01_Equal_Eok : p_ref01_Equal_E.Ok Try.prog := AE.of_ok (all_cons ty5_ok (all_cons ty9_ok (all_cons ty24_ok all_nil))) all_nil
theorem p_ref01_Equal_ok {g : Ds [.sl b8, .sl b8] → Option (Rs [.bool])} (hg : ∀ x r, g x = some r → ∃ N, p_ref01_Equal N x = some r) : SigOk Try.prog 14 ⟨[.sl b8, .sl b8], [.bool], g⟩ :=
  fun_of (E := p_ref01_Equal_E) (H := p_ref01_Equal_H) (L := fun N => LT.nil) (c := p_ref01_Equal_c) (ks := p_ref01_Equal_ks) (rs := p_ref01_Equal_rs) (F := p_ref01_Equal) (p_ref01_Equal_Eok) mix Try.func14 (by kernel_rfl) (fun N => OkAll.nil) p_ref01_Equal_eq hg
end Go.Ax.TryP
set_option linter.unusedVariables false
namespace Go.Ax.TryP
open Go.Proofs
theorem pow_le {n : Nat} (h : n ≤ 12) : (2 : Int) ^ n ≤ 4096 := (by decide : ∀ n, n ≤ 12 → (2 : Int) ^ n ≤ 4096) n h
theorem wf_one {a : List Int} : wfAll [.xs (.int .u16) 256] (a, ()) ↔ u16s 256 a := by simp [wfAll, wf_u16s]
theorem fRed_u16 (a : List Int) : u16s 256 (fRed a) := u16s.range fun i _ => by omega
theorem fRed_lt (a : List Int) (i : Nat) : 0 ≤ (fRed a).getD i 0 ∧ (fRed a).getD i 0 < 3329 := by
  by_cases hi : i < 256
  · rw [fRed, poly, map_range_getD hi]; omega
  · rw [List.getD_eq_getElem?_getD, List.getElem?_eq_none (by simp [fRed, poly]; omega)]; simp
theorem q_ring_Reduce : ∀ x r, g_ring_Reduce x = some r → ∃ N, p_ring_Reduce N x = some r := by
  refine Spec_of (ks := p_ring_Reduce_ks) (rs := p_ring_Reduce_rs) fun x hw _ => ⟨257, ?_⟩
  obtain ⟨(a : List Int), u⟩ := x
  have ha := wf_one.1 hw
  have hl := ha.1
  unfold p_ring_Reduce
  refine (iter_run (s := fun i => ((i : Int), part (fun i => a.getD i 0 % 3329) i a, List.replicate 256 0, ())) (y := (fRed a, List.replicate 256 0, ())) 256 ?_ ?_ 257 (by omega)).trans ?_
  · intro i hi kn
    have h0 := ha.at i
    unfold p_ring_Reduce_l2_F
    simp (disch := omega) only [if_pos, wrap_i64, Int.toNat_natCast, part_getD (Nat.le_refl i)]
    rw [part_set' (by omega) (tmod_pos h0.1), Int.natCast_add]
    rfl
  · intro kn
    unfold p_ring_Reduce_l2_F
    simp (disch := omega) only [if_neg]
    rw [part_all hl]
    rfl
  · rfl
theorem times_bound {a b : Int} (ha : 0 ≤ a ∧ a ≤ 65535) (hb : 0 ≤ b ∧ b ≤ 65535) : 0 ≤ a * b ∧ a * b ≤ 4294967295 := by
  have h1 : a * b ≤ 65535 * 65535 := Int.mul_le_mul ha.2 hb.2 hb.1 (by omega)
  exact ⟨Int.mul_nonneg ha.1 hb.1, by omega⟩
theorem q_ring_times : ∀ x r, g_ring_times x = some r → ∃ N, p_ring_times N x = some r := by
  refine Spec_of (ks := p_ring_times_ks) (rs := p_ring_times_rs) fun x hw hq => ⟨0, ?_⟩
  obtain ⟨(a : Int), (b : Int), u⟩ := x
  simp only [wfAll, Kd.wf, okInt_u16] at hw
  obtain ⟨ha, hb, _⟩ := hw
  have hm := times_bound ha hb
  unfold p_ring_times
  simp (disch := omega) only [wrap_u32, tmod_pos, wrap_u16]
theorem two_pow {d : Int} (h0 : 0 ≤ d) (h1 : d ≤ 12) : (0 : Int) < 2 ^ d.toNat ∧ (2 : Int) ^ d.toNat ≤ 4096 := by
  obtain ⟨n, rfl⟩ := Int.eq_ofNat_of_zero_le h0
  exact ⟨Int.pow_pos (by omega), pow_le (show n ≤ 12 by omega)⟩
theorem ishl_u32 {x d : Int} (hx : 0 ≤ x) (h0 : 0 ≤ d) (h1 : d ≤ 31) (hx2 : x * 2 ^ d.toNat ≤ 4294967295) : ishl .u32 x d = x * 2 ^ d.toNat := by
  unfold ishl
  rw [show min d.toNat IntKind.u32.bits = d.toNat by simp [IntKind.bits]; omega]
  exact wrap_u32 (Int.mul_nonneg hx (Int.le_of_lt (Int.pow_pos (by omega)))) hx2
theorem fComp_bound {d : Int} (h0 : 1 ≤ d) (h1 : d ≤ 11) (z : Int) : 0 ≤ fComp d z ∧ fComp d z < 2 ^ d.toNat := by
  obtain ⟨p0, p1⟩ := two_pow (show 0 ≤ d by omega) (by omega)
  exact ⟨Int.emod_nonneg _ (by omega), Int.emod_lt_of_pos _ p0⟩
theorem pow_toNat_succ {d : Int} (h0 : 0 ≤ d) : (2 : Int) ^ (d + 1).toNat = 2 ^ d.toNat * 2 := by
  rw [show (d + 1).toNat = d.toNat + 1 by omega, Int.pow_succ]
theorem wf_two {d : Int} {a : List Int} (h : wfAll [.int .i64, .xs (.int .u16) 256] (d, a, ())) : (-9223372036854775808 ≤ d ∧ d ≤ 9223372036854775807) ∧ u16s 256 a := by
  simp only [wfAll, Kd.wf, okInt_i64, okInt_u16] at h
  exact ⟨h.1, h.2.1⟩
theorem q_ring_Compress : ∀ x r, g_ring_Compress x = some r → ∃ N, p_ring_Compress N x = some r := by
  refine Spec_of (ks := p_ring_Compress_ks) (rs := p_ring_Compress_rs) fun x hw _ => ⟨257, ?_⟩
  obtain ⟨(d : Int), (a : List Int), u⟩ := x
  obtain ⟨hd, ha⟩ := wf_two hw
  unfold p_ring_Compress fCompress
  by_cases h1 : d < 1
  · simp only [h1, if_true, true_or]; rfl
  by_cases h2 : 11 < d
  · simp only [h1, h2, if_false, or_true, if_true]; rfl
  obtain ⟨p0, p1⟩ := two_pow (show 0 ≤ d by omega) (by omega)
  simp only [h1, h2, if_false, or_self]
  rw [show g_ring_Reduce (a, ()) = some (fRed a) from Spec_at hw.2 trivial]
  simp only [Option.bind_some]
  refine (iter_run (s := fun i => (d, fRed a, (i : Int), part (fun i => fComp d (a.getD i 0)) i (fRed a), List.replicate 256 0, ())) (y := (poly fun i => fComp d (a.getD i 0), List.replicate 256 0, ())) 256 ?_ ?_ 257 (by omega)).trans ?_
  · intro i hi kn
    have h0 := ha.at i
    have hr : (fRed a).getD i 0 = a.getD i 0 % 3329 := by rw [fRed, poly, map_range_getD hi]
    have hz : 0 ≤ a.getD i 0 % 3329 ∧ a.getD i 0 % 3329 ≤ 3328 := by omega
    have hl : (fRed a).length = 256 := (fRed_u16 a).1
    generalize hzz : a.getD i 0 % 3329 = z at *
    have hm0 : 0 ≤ z * 2 ^ d.toNat := Int.mul_nonneg hz.1 (by omega)
    have hm : z * 2 ^ d.toNat ≤ 3328 * 4096 := Int.mul_le_mul hz.2 p1 (by omega) (by omega)
    have hsh : ishl .u32 z (d + 1) = z * 2 ^ d.toNat * 2 := by
      rw [ishl_u32 hz.1 (by omega) (by omega) (by rw [pow_toNat_succ (by omega), ← Int.mul_assoc]; omega), pow_toNat_succ (by omega), Int.mul_assoc]
    have h1sh : ishl .u32 1 d = 2 ^ d.toNat := by rw [ishl_u32 (by omega) (by omega) (by omega) (by omega), Int.one_mul]
    unfold p_ring_Compress_l5_F
    simp (disch := omega) only [if_pos, if_neg, wrap_i64, wrap_u32, Int.toNat_natCast, hr, hsh, h1sh, tdiv_pos, tmod_pos]
    have hb := fComp_bound (d := d) (by omega) (by omega) (a.getD i 0)
    have hc : (z * 2 ^ d.toNat * 2 + 3329) / 6658 % 2 ^ d.toNat = fComp d (a.getD i 0) := by
      unfold fComp
      rw [hzz, Int.mul_assoc 2 z, Int.mul_comm 2 (z * _)]
      rfl
    rw [hc]
    simp (disch := omega) only [wrap_u16]
    rw [part_set' (h := fun i => fComp d (a.getD i 0)) (by omega) rfl]
    rfl
  · intro kn
    unfold p_ring_Compress_l5_F
    simp (disch := omega) only [if_neg]
    rw [part_all (fRed_u16 a).1]
    rfl
  · rfl
theorem at37 {a : List Int} (h : u16s 256 a) : g_ring_Reduce (a, ()) = some (fRed a) := Spec_at (ks := p_ring_Reduce_ks) (rs := p_ring_Reduce_rs) (wf_one.2 h) trivial
theorem at47 {a b : Int} (ha : 0 ≤ a ∧ a ≤ 65535) (hb : 0 ≤ b ∧ b ≤ 65535) : g_ring_times (a, b, ()) = some (a * b % 3329) :=
  Spec_at (ks := p_ring_times_ks) (rs := p_ring_times_rs) (by simp only [wfAll, Kd.wf, okInt_u16]; exact ⟨ha, hb, trivial⟩) trivial
theorem fDecomp_bound {d : Int} (h0 : 1 ≤ d) (h1 : d ≤ 11) (z : Int) : 0 ≤ fDecomp d z ∧ fDecomp d z ≤ 3329 := by
  obtain ⟨p0, p1⟩ := two_pow (show 0 ≤ d by omega) (by omega)
  unfold fDecomp
  have m0 := Int.emod_nonneg z (show (2 : Int) ^ d.toNat ≠ 0 by omega)
  have m1 := Int.emod_lt_of_pos z p0
  generalize z % 2 ^ d.toNat = y at *
  generalize (2 : Int) ^ d.toNat = w at *
  refine ⟨Int.ediv_nonneg (by omega) (by omega), ?_⟩
  refine Int.ediv_le_of_le_mul (by omega) ?_
  have : y * 3329 ≤ w * 3329 := by omega
  omega
theorem q_ring_Decompress : ∀ x r, g_ring_Decompress x = some r → ∃ N, p_ring_Decompress N x = some r := by
  refine Spec_of (ks := p_ring_Decompress_ks) (rs := p_ring_Decompress_rs) fun x hw _ => ⟨257, ?_⟩
  obtain ⟨(d : Int), (a : List Int), u⟩ := x
  obtain ⟨hd, ha⟩ := wf_two hw
  have hal := ha.1
  unfold p_ring_Decompress fDecompress
  by_cases h1 : d < 1
  · simp only [h1, if_true, true_or]; rfl
  by_cases h2 : 11 < d
  · simp only [h1, h2, if_false, or_true, if_true]; rfl
  obtain ⟨p0, p1⟩ := two_pow (show 0 ≤ d by omega) (by omega)
  simp only [h1, h2, if_false, or_self]
  refine (iter_run (s := fun i => (d, a, (i : Int), part (fun i => fDecomp d (a.getD i 0)) i a, List.replicate 256 0, ())) (y := (poly fun i => fDecomp d (a.getD i 0), List.replicate 256 0, ())) 256 ?_ ?_ 257 (by omega)).trans ?_
  · intro i hi kn
    have h0 := ha.at i
    have hb := fDecomp_bound (d := d) (by omega) (by omega) (a.getD i 0)
    have h1sh : ishl .u32 1 d = 2 ^ d.toNat := by rw [ishl_u32 (by omega) (by omega) (by omega) (by omega), Int.one_mul]
    have m0 := Int.emod_nonneg (a.getD i 0) (show (2 : Int) ^ d.toNat ≠ 0 by omega)
    have m1 := Int.emod_lt_of_pos (a.getD i 0) p0
    have hsr : ∀ x : Int, ishr .u32 x (d + 1) = x / (2 * 2 ^ d.toNat) := by
      intro x
      unfold ishr
      rw [show min (d + 1).toNat IntKind.u32.bits = (d + 1).toNat by simp [IntKind.bits]; omega, pow_toNat_succ (by omega), Int.mul_comm 2, Int.fdiv_eq_ediv_of_nonneg _ (by omega)]
    have hc : (6658 * (a.getD i 0 % 2 ^ d.toNat) + 2 ^ d.toNat) / (2 * 2 ^ d.toNat) = fDecomp d (a.getD i 0) := by
      unfold fDecomp
      rw [show 2 * (a.getD i 0 % 2 ^ d.toNat) * 3329 = 6658 * (a.getD i 0 % 2 ^ d.toNat) by omega]
    unfold p_ring_Decompress_l4_F
    simp (disch := omega) only [if_pos, if_neg, wrap_i64, wrap_u32, Int.toNat_natCast, h1sh, tmod_pos, hsr, hc]
    simp (disch := omega) only [wrap_u16]
    rw [part_set' (h := fun i => fDecomp d (a.getD i 0)) (by omega) rfl]
    rfl
  · intro kn
    unfold p_ring_Decompress_l4_F
    simp (disch := omega) only [if_neg]
    rw [part_all hal]
    rfl
  · rfl
theorem rev8_table : ∀ n, n < 256 → bt p_bits_Reverse8_s0 n = (rev8 n : Int) ∧ rev8 n < 256 := by decide +kernel
theorem q_bits_Reverse8 : ∀ x r, g_bits_Reverse8 x = some r → ∃ N, p_bits_Reverse8 N x = some r := by
  refine Spec_of (ks := p_bits_Reverse8_ks) (rs := p_bits_Reverse8_rs) fun x hw _ => ⟨0, ?_⟩
  obtain ⟨(n : Int), u⟩ := x
  simp only [wfAll, Kd.wf, okInt_u8] at hw
  have hs : p_bits_Reverse8_s0.size = 256 := by decide +kernel
  have ht := (rev8_table n.toNat (by omega)).1
  unfold p_bits_Reverse8
  rw [hs]
  simp (disch := omega) only [if_pos]
  rw [ht]
def h17 (j : Nat) : Int := 17 ^ j % 3329
theorem h17_bound (j : Nat) : 0 ≤ h17 j ∧ h17 j < 3329 := by unfold h17; omega
theorem zeta_bound (j : Nat) : 0 ≤ zeta j ∧ zeta j < 3329 := by unfold zeta; omega
theorem h17_succ (j : Nat) : h17 j * 17 % 3329 = h17 (j + 1) := by
  unfold h17
  rw [Int.pow_succ]
  generalize (17 : Int) ^ j = m
  omega
theorem at58 {n : Int} (h : 0 ≤ n ∧ n ≤ 255) : g_bits_Reverse8 (n, ()) = some (rev8 n.toNat : Int) :=
  Spec_at (ks := p_bits_Reverse8_ks) (rs := p_bits_Reverse8_rs) (by simp only [wfAll, Kd.wf, okInt_u8]; exact ⟨h, trivial⟩) trivial
theorem q_ring_powers : ∀ x r, g_ring_powers x = some r → ∃ N, p_ring_powers N x = some r := by
  refine Spec_of (ks := p_ring_powers_ks) (rs := p_ring_powers_rs) fun x hw _ => ⟨200, ?_⟩
  unfold p_ring_powers
  refine (iter_run (s := fun i => (((i + 1 : Nat) : Int), List.replicate 128 0, part h17 (i + 1) (List.replicate 128 0), List.replicate 128 0, ())) (y := (List.replicate 128 0, (List.range 128).map h17, List.replicate 128 0, ())) 127 ?_ ?_ 200 (by omega)).trans ?_
  · intro i hi kn
    have hb := h17_bound i
    have ht := at47 (a := h17 i) (b := 17) (by omega) (by omega)
    have hg : (part h17 (i + 1) (List.replicate 128 0)).getD i 0 = h17 i := part_getD_lt (by omega)
    have e1 : ((i + 1 : Nat) : Int) - 1 = (i : Int) := by omega
    unfold p_ring_powers_l4_F
    simp (disch := omega) only [if_pos, wrap_i64, e1, Int.toNat_natCast, hg, ht, Option.bind_some, h17_succ]
    rw [part_set' (h := h17) (by simp; omega) rfl]
    rfl
  · intro kn
    unfold p_ring_powers_l4_F
    simp (disch := omega) only [if_neg]
    rw [part_all (by simp)]
  refine (iter_run (s := fun i => ((i : Int), List.replicate 128 0, (List.range 128).map h17, part zeta i (List.replicate 128 0), ())) (y := (List.replicate 128 0, (List.range 128).map zeta, ())) 128 ?_ ?_ 200 (by omega)).trans ?_
  · intro i hi kn
    have ht := at58 (n := (i : Int)) (by omega)
    obtain ⟨_, hr⟩ := rev8_table i (by omega)
    have hsr : ishr .u8 (rev8 i : Int) 1 = ((rev7 i : Nat) : Int) := by
      unfold ishr rev7
      rw [show min (1 : Int).toNat IntKind.u8.bits = 1 by decide, Int.fdiv_eq_ediv_of_nonneg _ (by decide)]
      omega
    have h7 : rev7 i < 128 := by unfold rev7; omega
    have hg : ((List.range 128).map h17).getD (rev7 i) 0 = h17 (rev7 i) := map_range_getD h7
    unfold p_ring_powers_l8_F
    simp (disch := omega) only [if_pos, wrap_i64, wrap_u8, Int.toNat_natCast, ht, Option.bind_some, hsr, hg]
    rw [part_set' (h := zeta) (i := i) (a := List.replicate 128 0) (z := h17 (rev7 i)) (by rw [List.length_replicate]; omega) rfl]
    rfl
  · intro kn
    unfold p_ring_powers_l8_F
    simp (disch := omega) only [if_neg]
    rw [part_all (by simp)]
  · rfl
theorem at46 : g_ring_powers () = some ((List.range 128).map zeta) := Spec_at (ks := p_ring_powers_ks) (rs := p_ring_powers_rs) trivial trivial
theorem poly_getD {h : Nat → Int} {i : Nat} (hi : i < 256) : (poly h).getD i 0 = h i := map_range_getD hi
theorem poly_congr {h h' : Nat → Int} (e : ∀ i, i < 256 → h i = h' i) : poly h = poly h' := List.map_congr_left fun i hi => e i (List.mem_range.1 hi)
theorem poly_set {h h' : Nat → Int} {j : Nat} {v : Int} (hj : h' j = v) (e : ∀ i, i < 256 → i ≠ j → h' i = h i) : (poly h).set j v = poly h' := by
  apply List.ext_getElem?
  intro i
  rw [List.getElem?_set]
  by_cases hij : j = i
  · subst hij
    simp only [if_true]
    by_cases hl : j < 256
    · simp [poly, hl, hj]
    · simp [poly, hl]
  · rw [if_neg hij]
    by_cases hl : i < 256
    · simp [poly, hl, e i hl (Ne.symm hij)]
    · simp [poly, hl]
theorem poly_self {a : List Int} (h : a.length = 256) : poly (fun i => a.getD i 0) = a := by
  apply List.ext_getElem?
  intro i
  by_cases hl : i < 256
  · simp [poly, hl, List.getD_eq_getElem?_getD, List.getElem?_eq_getElem (show i < a.length by omega)]
  · simp [poly, hl, List.getElem?_eq_none (show a.length ≤ i by omega)]
def red (a : List Int) : Prop := a.length = 256 ∧ ∀ i, 0 ≤ a.getD i 0 ∧ a.getD i 0 < 3329
theorem red_fRed (a : List Int) : red (fRed a) := ⟨(fRed_u16 a).1, fRed_lt a⟩
theorem red_poly {h : Nat → Int} (hh : ∀ i, i < 256 → 0 ≤ h i ∧ h i < 3329) : red (poly h) := by
  refine ⟨by simp [poly], fun i => ?_⟩
  by_cases hi : i < 256
  · rw [poly_getD hi]; exact hh i hi
  · rw [List.getD_eq_getElem?_getD, List.getElem?_eq_none (by simp [poly]; omega)]; simp
theorem red.u16 {a : List Int} (h : red a) : u16s 256 a := by
  refine ⟨h.1, fun z hz => ?_⟩
  obtain ⟨i, hi, rfl⟩ := List.getElem_of_mem hz
  have := h.2 i
  rw [List.getD_eq_getElem?_getD, List.getElem?_eq_getElem hi] at this
  simp only [Option.getD_some] at this
  omega
def nval (s : Nat) (a : List Int) (j : Nat) : Int :=
  if j % (2 * s) < s then (a.getD j 0 + zeta (128 / s + j / (2 * s)) * a.getD (j + s) 0 % 3329) % 3329
  else (a.getD (j - s) 0 + 3329 - zeta (128 / s + j / (2 * s)) * a.getD j 0 % 3329) % 3329
theorem nLayer_eq (s : Nat) (a : List Int) : nLayer s a = poly (nval s a) := rfl
theorem nval_bound (s : Nat) (a : List Int) (j : Nat) : 0 ≤ nval s a j ∧ nval s a j < 3329 := by unfold nval; split <;> omega
theorem red_nLayer (s : Nat) (a : List Int) : red (nLayer s a) := by rw [nLayer_eq]; exact red_poly fun i _ => nval_bound s a i
def nDone (s at' r j : Nat) : Prop := j < at' ∨ (at' ≤ j ∧ j < at' + r) ∨ (at' + s ≤ j ∧ j < at' + s + r)
instance (s at' r j : Nat) : Decidable (nDone s at' r j) := by unfold nDone; infer_instance
def nMix (s : Nat) (a : List Int) (at' r j : Nat) : Int := if nDone s at' r j then nval s a j else a.getD j 0
theorem nval_lo {s m b r : Nat} (hm : s * m = 128) (hs : 0 < s) (hr : r < s) (a : List Int) : nval s a (2 * s * b + r) = (a.getD (2 * s * b + r) 0 + zeta (m + b) * a.getD (2 * s * b + r + s) 0 % 3329) % 3329 := by
  have e1 : (2 * s * b + r) % (2 * s) = r := by rw [Nat.mul_add_mod]; exact Nat.mod_eq_of_lt (by omega)
  have e2 : (2 * s * b + r) / (2 * s) = b := by rw [Nat.mul_add_div (by omega), Nat.div_eq_of_lt (by omega), Nat.add_zero]
  have e3 : 128 / s = m := by rw [← hm, Nat.mul_div_cancel_left _ hs]
  unfold nval
  rw [e1, e2, e3, if_pos hr]
theorem nval_hi {s m b r : Nat} (hm : s * m = 128) (hs : 0 < s) (hr : r < s) (a : List Int) : nval s a (2 * s * b + r + s) = (a.getD (2 * s * b + r) 0 + 3329 - zeta (m + b) * a.getD (2 * s * b + r + s) 0 % 3329) % 3329 := by
  have e1 : (2 * s * b + r + s) % (2 * s) = r + s := by rw [Nat.add_assoc, Nat.mul_add_mod]; exact Nat.mod_eq_of_lt (by omega)
  have e2 : (2 * s * b + r + s) / (2 * s) = b := by rw [Nat.add_assoc, Nat.mul_add_div (by omega), Nat.div_eq_of_lt (by omega), Nat.add_zero]
  have e3 : 128 / s = m := by rw [← hm, Nat.mul_div_cancel_left _ hs]
  unfold nval
  rw [e1, e2, e3, if_neg (by omega), Nat.add_sub_cancel]
theorem ntt_block {β : Type} {N s m b : Nat} (hm : s * m = 128) (hs : 0 < s) (hb : b < m) (hm64 : m ≤ 64) (hN : 300 ≤ N) {a : List Int} (ha : red a) (res : List Int) (K : Int × Int × Int × List Int × List Int × List Int × Unit → Option β) :
    iter (p_ring_Ntt_l11_F N) N (((m + b : Nat) : Int), (s : Int), ((2 * s * b : Nat) : Int), ((2 * s * b : Nat) : Int), poly (nMix s a (2 * s * b) 0), res, (List.range 128).map zeta, ()) K
      = K (((m + b : Nat) : Int), (s : Int), ((2 * s * b : Nat) : Int), poly (nMix s a (2 * s * (b + 1)) 0), res, (List.range 128).map zeta, ()) := by
  have hs128 : s ≤ 128 := by rw [← hm]; exact Nat.le_mul_of_pos_right _ (by omega)
  have hat : 2 * s * b + 2 * s ≤ 256 := by
    have : s * (b + 1) ≤ s * m := Nat.mul_le_mul_left _ (by omega)
    rw [hm, Nat.mul_add] at this
    rw [Nat.mul_assoc]
    omega
  have hnext : 2 * s * (b + 1) = 2 * s * b + 2 * s := by rw [Nat.mul_add, Nat.mul_one]
  rw [hnext]
  have hk : m + b < 128 := by omega
  have hz := zeta_bound (m + b)
  have hzg : ((List.range 128).map zeta).getD (m + b) 0 = zeta (m + b) := map_range_getD (by omega)
  have hlo := fun r (hr : r < s) => nval_lo (b := b) hm hs hr a
  have hhi := fun r (hr : r < s) => nval_hi (b := b) hm hs hr a
  generalize 2 * s * b = c at *
  generalize m + b = k at *
  refine (iter_run (s := fun r => ((k : Int), (s : Int), (c : Int), ((c + r : Nat) : Int), poly (nMix s a c r), res, (List.range 128).map zeta, ())) (y := ((k : Int), (s : Int), (c : Int), poly (nMix s a (c + 2 * s) 0), res, (List.range 128).map zeta, ())) s ?_ ?_ N (by omega)).trans ?_
  · intro r hr kn
    have h1 := ha.2 (c + r)
    have h2 := ha.2 (c + r + s)
    have g1 : (poly (nMix s a c r)).getD (c + r) 0 = a.getD (c + r) 0 := by rw [poly_getD (by omega), nMix, if_neg (by unfold nDone; omega)]
    have g2 : (poly (nMix s a c r)).getD (c + r + s) 0 = a.getD (c + r + s) 0 := by rw [poly_getD (by omega), nMix, if_neg (by unfold nDone; omega)]
    have ht := at47 (a := zeta k) (b := a.getD (c + r + s) 0) (by omega) (by omega)
    have hl := hlo r hr
    have hh := hhi r hr
    have ec : ((c + r : Nat) : Int) + (s : Int) = ((c + r + s : Nat) : Int) := by omega
    unfold p_ring_Ntt_l11_F
    simp (disch := omega) only [if_pos, wrap_i64, ec, Int.toNat_natCast, hzg, g1, g2, ht, Option.bind_some, wrap_u16, tmod_pos]
    rw [← hl, ← hh]
    rw [poly_set (h' := fun j => if j = c + r then nval s a j else nMix s a c r j) (by simp) (fun i _ hi => by simp [hi])]
    rw [poly_set (h' := nMix s a c (r + 1)) ?_ ?_]
    · rfl
    · unfold nMix; rw [if_pos (by unfold nDone; omega)]
    · intro i hi hne
      by_cases h : i = c + r
      · rw [if_pos h, h]; unfold nMix; rw [if_pos (by unfold nDone; omega)]
      · rw [if_neg h]; unfold nMix
        by_cases hd : nDone s c r i
        · rw [if_pos hd, if_pos (by unfold nDone at *; omega)]
        · rw [if_neg hd, if_neg (by unfold nDone at *; omega)]
  · intro kn
    unfold p_ring_Ntt_l11_F
    simp (disch := omega) only [if_neg, wrap_i64]
    rw [poly_congr (h' := nMix s a (c + 2 * s) 0)]
    intro i hi
    unfold nMix
    by_cases hd : nDone s c s i
    · rw [if_pos hd, if_pos (by unfold nDone at *; omega)]
    · rw [if_neg hd, if_neg (by unfold nDone at *; omega)]
  · rfl
theorem ntt_layer {β : Type} {N s m : Nat} (hm : s * m = 128) (hs : 0 < s) (hm64 : m ≤ 64) (hN : 300 ≤ N) {a : List Int} (ha : red a) (res : List Int) (K : Int × Int × List Int × List Int × List Int × Unit → Option β) :
    iter (p_ring_Ntt_l8_F N) N ((m : Int), (s : Int), 0, a, res, (List.range 128).map zeta, ()) K = K (((2 * m : Nat) : Int), (s : Int), nLayer s a, res, (List.range 128).map zeta, ()) := by
  have hs128 : s ≤ 128 := by rw [← hm]; exact Nat.le_mul_of_pos_right _ (by
    rcases Nat.eq_zero_or_pos m with h | h
    · subst h; simp at hm
    · exact h)
  have hall : 2 * s * m = 256 := by rw [Nat.mul_assoc, hm]
  have hat : ∀ b, b ≤ m → 2 * s * b ≤ 256 := fun b hb => by
    have := Nat.mul_le_mul_left (2 * s) hb
    omega
  have h0 : poly (nMix s a (2 * s * 0) 0) = a := by
    refine (poly_congr fun i hi => ?_).trans (poly_self ha.1)
    unfold nMix
    rw [if_neg (by unfold nDone; omega)]
  refine Eq.trans ?_ (iter_run (F := p_ring_Ntt_l8_F N) (s := fun b => (((m + b : Nat) : Int), (s : Int), ((2 * s * b : Nat) : Int), poly (nMix s a (2 * s * b) 0), res, (List.range 128).map zeta, ())) (y := (((2 * m : Nat) : Int), (s : Int), nLayer s a, res, (List.range 128).map zeta, ())) m ?_ ?_ N (by omega))
  · rw [h0]; rfl
  · intro b hb kn
    have h1 := hat (b + 1) (by omega)
    have hnext : 2 * s * (b + 1) = 2 * s * b + 2 * s := by rw [Nat.mul_add, Nat.mul_one]
    have hblock := ntt_block (b := b) hm hs hb hm64 hN ha res (β := β)
    unfold p_ring_Ntt_l8_F
    dsimp only
    rw [if_pos (by omega)]
    refine (hblock _).trans ?_
    rw [hnext] at h1 ⊢
    simp (disch := omega) only [wrap_i64]
    congr 1
  · intro kn
    unfold p_ring_Ntt_l8_F
    dsimp only
    rw [if_neg (by omega)]
    have : poly (nMix s a (2 * s * m) 0) = nLayer s a := by
      rw [nLayer_eq, hall]
      refine poly_congr fun i hi => ?_
      unfold nMix
      rw [if_pos (by unfold nDone; omega)]
    simp only [this]
    rw [show m + m = 2 * m by omega]
def nStage (a : List Int) : Nat → List Int
  | 0 => fRed a
  | i + 1 => nLayer (128 / 2 ^ i) (nStage a i)
theorem fNtt_eq (a : List Int) : fNtt a = nStage a 7 := by simp only [fNtt, nStage, List.foldl_cons, List.foldl_nil, Nat.reducePow, Nat.reduceDiv]
theorem red_nStage (a : List Int) : ∀ i, red (nStage a i)
  | 0 => red_fRed a
  | _ + 1 => red_nLayer _ _
theorem stage_facts : ∀ i, i < 7 → (128 / 2 ^ i) * 2 ^ i = 128 ∧ 2 ≤ 128 / 2 ^ i ∧ 128 / 2 ^ i ≤ 128 ∧ 128 / 2 ^ i / 2 = 128 / 2 ^ (i + 1) ∧ 2 ^ i ≤ 64 := by decide
theorem q_ring_Ntt : ∀ x r, g_ring_Ntt x = some r → ∃ N, p_ring_Ntt N x = some r := by
  refine Spec_of (ks := p_ring_Ntt_ks) (rs := p_ring_Ntt_rs) fun x hw _ => ⟨300, ?_⟩
  obtain ⟨(a : List Int), u⟩ := x
  have ha := wf_one.1 hw
  unfold p_ring_Ntt
  refine (congrArg (fun o => Option.bind o _) (at37 ha)).trans ?_
  refine (congrArg (fun o => Option.bind o _) at46).trans ?_
  simp only [Option.bind_some]
  refine (iter_run (F := p_ring_Ntt_l5_F 300) (s := fun i => (((2 ^ i : Nat) : Int), ((128 / 2 ^ i : Nat) : Int), nStage a i, List.replicate 256 0, (List.range 128).map zeta, ())) (y := (fNtt a, List.replicate 256 0, ())) 7 ?_ ?_ 300 (by omega)).trans ?_
  · intro i hi kn
    obtain ⟨f1, f2, f3, f4, f5⟩ := stage_facts i hi
    unfold p_ring_Ntt_l5_F
    dsimp only
    rw [if_pos (by omega)]
    refine (ntt_layer f1 (by omega) f5 (Nat.le_refl _) (red_nStage a i) _ _).trans ?_
    simp (disch := omega) only [tdiv_pos, wrap_i64]
    have e1 : ((128 / 2 ^ i : Nat) : Int) / 2 = ((128 / 2 ^ (i + 1) : Nat) : Int) := by rw [← f4]; omega
    rw [e1, Nat.pow_succ, Nat.mul_comm 2]
    rfl
  · intro kn
    unfold p_ring_Ntt_l5_F
    dsimp only
    rw [if_neg (by decide), fNtt_eq]
  · rfl
theorem at24 {a : List Int} (h : u16s 256 a) : g_ring_Ntt (a, ()) = some (fNtt a) := Spec_at (ks := p_ring_Ntt_ks) (rs := p_ring_Ntt_rs) (wf_one.2 h) trivial
theorem wf_two' {d : Int} {a : List Int} (hd : -9223372036854775808 ≤ d ∧ d ≤ 9223372036854775807) (ha : u16s 256 a) : wfAll [.int .i64, .xs (.int .u16) 256] (d, a, ()) := by
  simp only [wfAll, Kd.wf, okInt_i64, okInt_u16]
  exact ⟨hd, ha, trivial⟩
theorem at14 {d : Int} {a : List Int} (hd : -9223372036854775808 ≤ d ∧ d ≤ 9223372036854775807) (ha : u16s 256 a) : g_ring_Compress (d, a, ()) = some (fCompress d a) := Spec_at (ks := p_ring_Compress_ks) (rs := p_ring_Compress_rs) (wf_two' hd ha) trivial
theorem at16 {d : Int} {a : List Int} (hd : -9223372036854775808 ≤ d ∧ d ≤ 9223372036854775807) (ha : u16s 256 a) : g_ring_Decompress (d, a, ()) = some (fDecompress d a) := Spec_at (ks := p_ring_Decompress_ks) (rs := p_ring_Decompress_rs) (wf_two' hd ha) trivial
theorem root_bound (i : Nat) : 0 ≤ root i ∧ root i ≤ 3328 := by unfold root; omega
theorem emod_mul_left (a b : Int) : a % 3329 * b % 3329 = a * b % 3329 := by rw [Int.mul_emod, Int.emod_emod_of_dvd _ (Int.dvd_refl _), ← Int.mul_emod]
theorem zeta_root (i : Nat) : zeta i * zeta i % 3329 * 17 % 3329 = root i := by
  unfold zeta root
  rw [emod_mul_left, Int.mul_assoc, emod_mul_left, Int.mul_comm (17 ^ rev7 i), Int.mul_assoc, emod_mul_left]
  congr 1
  rw [Int.pow_succ, Nat.two_mul, Int.pow_add, Int.mul_comm 17, Int.mul_assoc]
theorem wf_pp {a b : List Int} : wfAll [.xs (.int .u16) 256, .xs (.int .u16) 256] (a, b, ()) ↔ u16s 256 a ∧ u16s 256 b := by simp [wfAll, wf_u16s]
theorem q_ring_MulNtt : ∀ x r, g_ring_MulNtt x = some r → ∃ N, p_ring_MulNtt N x = some r := by
  refine Spec_of (ks := p_ring_MulNtt_ks) (rs := p_ring_MulNtt_rs) fun x hw _ => ⟨200, ?_⟩
  obtain ⟨(a : List Int), (b : List Int), u⟩ := x
  obtain ⟨ha, hb⟩ := wf_pp.1 hw
  unfold p_ring_MulNtt
  simp only [at37 ha, at37 hb, at46, Option.bind_some]
  refine (iter_run (F := p_ring_MulNtt_l5_F 200) (s := fun i => ((i : Int), fRed a, fRed b, List.replicate 256 0, (List.range 128).map zeta, part (mval a b) (2 * i) (List.replicate 256 0), ())) (y := (List.replicate 256 0, fMulN a b, ())) 128 ?_ ?_ 200 (by omega)).trans ?_
  · intro i hi kn
    have hz := zeta_bound i
    have hzg : ((List.range 128).map zeta).getD i 0 = zeta i := map_range_getD hi
    have e1 : ∀ j, j < 256 → (fRed a).getD j 0 = a.getD j 0 % 3329 := fun j hj => by rw [fRed, poly_getD hj]
    have e2 : ∀ j, j < 256 → (fRed b).getD j 0 = b.getD j 0 % 3329 := fun j hj => by rw [fRed, poly_getD hj]
    have a0 := e1 (2 * i) (by omega)
    have a1 := e1 (2 * i + 1) (by omega)
    have b0 := e2 (2 * i) (by omega)
    have b1 := e2 (2 * i + 1) (by omega)
    have c1 : 2 * (i : Int) = ((2 * i : Nat) : Int) := by omega
    have c2 : ((2 * i : Nat) : Int) + 1 = ((2 * i + 1 : Nat) : Int) := by omega
    have hr := root_bound i
    have m0 : mval a b (2 * i) = ((a.getD (2 * i) 0 % 3329) * (b.getD (2 * i) 0 % 3329) + (a.getD (2 * i + 1) 0 % 3329) * (b.getD (2 * i + 1) 0 % 3329) % 3329 * root i) % 3329 := by
      unfold mval; rw [if_pos (by omega), show 2 * i / 2 = i by omega]
    have m1 : mval a b (2 * i + 1) = ((a.getD (2 * i) 0 % 3329) * (b.getD (2 * i + 1) 0 % 3329) + (a.getD (2 * i + 1) 0 % 3329) * (b.getD (2 * i) 0 % 3329)) % 3329 := by
      unfold mval; rw [if_neg (by omega), show 2 * i + 1 - 1 = 2 * i by omega]
    have ga := fun j => (by omega : 0 ≤ a.getD j 0 % 3329 ∧ a.getD j 0 % 3329 ≤ 3328)
    have gb := fun j => (by omega : 0 ≤ b.getD j 0 % 3329 ∧ b.getD j 0 % 3329 ≤ 3328)
    have t1 := at47 (a := zeta i) (b := zeta i) (by omega) (by omega)
    have t2 := at47 (a := zeta i * zeta i % 3329) (b := 17) (by omega) (by omega)
    rw [zeta_root] at t2
    have x0 := ga (2 * i); have x1 := ga (2 * i + 1); have y0 := gb (2 * i); have y1 := gb (2 * i + 1)
    generalize a.getD (2 * i) 0 % 3329 = A0 at *
    generalize a.getD (2 * i + 1) 0 % 3329 = A1 at *
    generalize b.getD (2 * i) 0 % 3329 = B0 at *
    generalize b.getD (2 * i + 1) 0 % 3329 = B1 at *
    have t3 := at47 (a := A0) (b := B0) (by omega) (by omega)
    have t4 := at47 (a := A1) (b := B1) (by omega) (by omega)
    have t5 := at47 (a := A1 * B1 % 3329) (b := root i) (by omega) (by omega)
    have t6 := at47 (a := A0) (b := B1) (by omega) (by omega)
    have t7 := at47 (a := A1) (b := B0) (by omega) (by omega)
    unfold p_ring_MulNtt_l5_F
    simp (disch := omega) only [if_pos, wrap_i64, c1, c2, Int.toNat_natCast, hzg, a0, a1, b0, b1, t1, t2, t3, t4, t5, t6, t7, Option.bind_some, wrap_u16, tmod_pos]
    rw [part_set' (h := mval a b) (i := 2 * i) (by rw [List.length_replicate]; omega) (by rw [m0]; omega), part_set' (h := mval a b) (i := 2 * i + 1) (by rw [List.length_replicate]; omega) (by rw [m1]; omega)]
    rfl
  · intro kn
    unfold p_ring_MulNtt_l5_F
    dsimp only
    rw [if_neg (by decide)]
    rw [part_all (n := 2 * 128) (by rw [List.length_replicate])]
    rfl
  · rfl
theorem at20 {a b : List Int} (ha : u16s 256 a) (hb : u16s 256 b) : g_ring_MulNtt (a, b, ()) = some (fMulN a b) := Spec_at (ks := p_ring_MulNtt_ks) (rs := p_ring_MulNtt_rs) (wf_pp.2 ⟨ha, hb⟩) trivial
theorem zeros_u16 : u16s 256 zeros := u16s.zero 256
theorem poly_u16 {h : Nat → Int} (hh : ∀ i, i < 256 → 0 ≤ h i ∧ h i ≤ 65535) : u16s 256 (poly h) := u16s.range hh
theorem ival_bound (s : Nat) (a : List Int) (j : Nat) : 0 ≤ ival s a j ∧ ival s a j < 3329 := by unfold ival; split <;> omega
theorem red_iLayer (s : Nat) (a : List Int) : red (iLayer s a) := red_poly fun i _ => ival_bound s a i
theorem red_iStage (a : List Int) : ∀ i, red (iStage a i)
  | 0 => red_fRed a
  | _ + 1 => red_iLayer _ _
def iMix (s : Nat) (a : List Int) (at' r j : Nat) : Int := if nDone s at' r j then ival s a j else a.getD j 0
theorem ival_lo {s b r : Nat} (hs : 0 < s) (hr : r < s) (a : List Int) : ival s a (2 * s * b + r) = (a.getD (2 * s * b + r) 0 + a.getD (2 * s * b + r + s) 0) % 3329 := by
  have e1 : (2 * s * b + r) % (2 * s) = r := by rw [Nat.mul_add_mod]; exact Nat.mod_eq_of_lt (by omega)
  unfold ival
  rw [e1, if_pos hr]
theorem ival_hi {s m b r : Nat} (hm : s * m = 128) (hs : 0 < s) (hr : r < s) (a : List Int) : ival s a (2 * s * b + r + s) = zeta (2 * m - 1 - b) * ((a.getD (2 * s * b + r + s) 0 + 3329 - a.getD (2 * s * b + r) 0) % 3329) % 3329 := by
  have e1 : (2 * s * b + r + s) % (2 * s) = r + s := by rw [Nat.add_assoc, Nat.mul_add_mod]; exact Nat.mod_eq_of_lt (by omega)
  have e2 : (2 * s * b + r + s) / (2 * s) = b := by rw [Nat.add_assoc, Nat.mul_add_div (by omega), Nat.div_eq_of_lt (by omega), Nat.add_zero]
  have e3 : 128 / s = m := by rw [← hm, Nat.mul_div_cancel_left _ hs]
  unfold ival
  rw [e1, e2, e3, if_neg (by omega), Nat.add_sub_cancel]
theorem inv_block {β : Type} {N s m b : Nat} (hm : s * m = 128) (hs : 0 < s) (hb : b < m) (hm64 : m ≤ 64) (hN : 300 ≤ N) {a : List Int} (ha : red a) (res : List Int) (K : Int × Int × Int × List Int × List Int × List Int × Unit → Option β) :
    iter (p_ring_Inv_l11_F N) N (((2 * m - 1 - b : Nat) : Int), (s : Int), ((2 * s * b : Nat) : Int), ((2 * s * b : Nat) : Int), poly (iMix s a (2 * s * b) 0), res, (List.range 128).map zeta, ()) K
      = K (((2 * m - 1 - b : Nat) : Int), (s : Int), ((2 * s * b : Nat) : Int), poly (iMix s a (2 * s * (b + 1)) 0), res, (List.range 128).map zeta, ()) := by
  have hs128 : s ≤ 128 := by rw [← hm]; exact Nat.le_mul_of_pos_right _ (by omega)
  have hat : 2 * s * b + 2 * s ≤ 256 := by
    have : s * (b + 1) ≤ s * m := Nat.mul_le_mul_left _ (by omega)
    rw [hm, Nat.mul_add] at this
    rw [Nat.mul_assoc]
    omega
  have hnext : 2 * s * (b + 1) = 2 * s * b + 2 * s := by rw [Nat.mul_add, Nat.mul_one]
  rw [hnext]
  have hk : 2 * m - 1 - b < 128 := by omega
  have hz := zeta_bound (2 * m - 1 - b)
  have hzg : ((List.range 128).map zeta).getD (2 * m - 1 - b) 0 = zeta (2 * m - 1 - b) := map_range_getD hk
  have hlo := fun r (hr : r < s) => ival_lo (b := b) hs hr a
  have hhi := fun r (hr : r < s) => ival_hi (b := b) hm hs hr a
  generalize 2 * s * b = c at *
  generalize 2 * m - 1 - b = k at *
  refine (iter_run (F := p_ring_Inv_l11_F N) (s := fun r => ((k : Int), (s : Int), (c : Int), ((c + r : Nat) : Int), poly (iMix s a c r), res, (List.range 128).map zeta, ())) (y := ((k : Int), (s : Int), (c : Int), poly (iMix s a (c + 2 * s) 0), res, (List.range 128).map zeta, ())) s ?_ ?_ N (by omega)).trans ?_
  · intro r hr kn
    have h1 := ha.2 (c + r)
    have h2 := ha.2 (c + r + s)
    have g1 : (poly (iMix s a c r)).getD (c + r) 0 = a.getD (c + r) 0 := by rw [poly_getD (by omega), iMix, if_neg (by unfold nDone; omega)]
    have g2 : (poly (iMix s a c r)).getD (c + r + s) 0 = a.getD (c + r + s) 0 := by rw [poly_getD (by omega), iMix, if_neg (by unfold nDone; omega)]
    have ht := at47 (a := zeta k) (b := (a.getD (c + r + s) 0 + 3329 - a.getD (c + r) 0) % 3329) (by omega) (by omega)
    have hl := hlo r hr
    have hh := hhi r hr
    have ec : ((c + r : Nat) : Int) + (s : Int) = ((c + r + s : Nat) : Int) := by omega
    unfold p_ring_Inv_l11_F
    simp (disch := omega) only [if_pos, wrap_i64, ec, Int.toNat_natCast, hzg, g1, g2, Option.bind_some, wrap_u16, tmod_pos, ht]
    rw [← hl, ← hh]
    rw [poly_set (h' := fun j => if j = c + r then ival s a j else iMix s a c r j) (by simp) (fun i _ hi => by simp [hi])]
    rw [poly_set (h' := iMix s a c (r + 1)) ?_ ?_]
    · rfl
    · unfold iMix; rw [if_pos (by unfold nDone; omega)]
    · intro i hi hne
      by_cases h : i = c + r
      · rw [if_pos h, h]; unfold iMix; rw [if_pos (by unfold nDone; omega)]
      · rw [if_neg h]; unfold iMix
        by_cases hd : nDone s c r i
        · rw [if_pos hd, if_pos (by unfold nDone at *; omega)]
        · rw [if_neg hd, if_neg (by unfold nDone at *; omega)]
  · intro kn
    unfold p_ring_Inv_l11_F
    simp (disch := omega) only [if_neg, wrap_i64]
    rw [poly_congr (h' := iMix s a (c + 2 * s) 0)]
    intro i hi
    unfold iMix
    by_cases hd : nDone s c s i
    · rw [if_pos hd, if_pos (by unfold nDone at *; omega)]
    · rw [if_neg hd, if_neg (by unfold nDone at *; omega)]
  · rfl
theorem inv_layer {β : Type} {N s m : Nat} (hm : s * m = 128) (hs : 0 < s) (hm0 : 0 < m) (hm64 : m ≤ 64) (hN : 300 ≤ N) {a : List Int} (ha : red a) (res : List Int) (K : Int × Int × List Int × List Int × List Int × Unit → Option β) :
    iter (p_ring_Inv_l8_F N) N (((2 * m - 1 : Nat) : Int), (s : Int), 0, a, res, (List.range 128).map zeta, ()) K = K (((m - 1 : Nat) : Int), (s : Int), iLayer s a, res, (List.range 128).map zeta, ()) := by
  have hs128 : s ≤ 128 := by rw [← hm]; exact Nat.le_mul_of_pos_right _ hm0
  have hall : 2 * s * m = 256 := by rw [Nat.mul_assoc, hm]
  have hat : ∀ b, b ≤ m → 2 * s * b ≤ 256 := fun b hb => by
    have := Nat.mul_le_mul_left (2 * s) hb
    omega
  have h0 : poly (iMix s a (2 * s * 0) 0) = a := by
    refine (poly_congr fun i hi => ?_).trans (poly_self ha.1)
    unfold iMix
    rw [if_neg (by unfold nDone; omega)]
  refine Eq.trans ?_ (iter_run (F := p_ring_Inv_l8_F N) (s := fun b => (((2 * m - 1 : Nat) : Int) - (b : Int), (s : Int), ((2 * s * b : Nat) : Int), poly (iMix s a (2 * s * b) 0), res, (List.range 128).map zeta, ())) (y := (((m - 1 : Nat) : Int), (s : Int), iLayer s a, res, (List.range 128).map zeta, ())) m ?_ ?_ N (by omega))
  · rw [h0, Int.natCast_zero, Int.sub_zero]; rfl
  · intro b hb kn
    have h1 := hat (b + 1) (by omega)
    have hnext : 2 * s * (b + 1) = 2 * s * b + 2 * s := by rw [Nat.mul_add, Nat.mul_one]
    have hblock := inv_block (b := b) hm hs hb hm64 hN ha res (β := β)
    have ek : ((2 * m - 1 : Nat) : Int) - (b : Int) = ((2 * m - 1 - b : Nat) : Int) := by omega
    unfold p_ring_Inv_l8_F
    dsimp only
    rw [ek]
    rw [if_pos (by omega)]
    refine (hblock _).trans ?_
    rw [hnext] at h1 ⊢
    simp (disch := omega) only [wrap_i64]
    have ek2 : ((2 * m - 1 - b : Nat) : Int) - 1 = ((2 * m - 1 : Nat) : Int) - ((b + 1 : Nat) : Int) := by omega
    have ea : ((2 * s * b : Nat) : Int) + 2 * (s : Int) = ((2 * s * b + 2 * s : Nat) : Int) := by omega
    rw [ek2, ea]
  · intro kn
    unfold p_ring_Inv_l8_F
    dsimp only
    rw [if_neg (by omega)]
    have : poly (iMix s a (2 * s * m) 0) = iLayer s a := by
      unfold iLayer
      rw [hall]
      refine poly_congr fun i hi => ?_
      unfold iMix
      rw [if_pos (by unfold nDone; omega)]
    rw [this]
    rw [show ((2 * m - 1 : Nat) : Int) - (m : Int) = ((m - 1 : Nat) : Int) by omega]
theorem istage_facts : ∀ i, i < 7 → (2 * 2 ^ i) * (64 / 2 ^ i) = 128 ∧ 0 < 64 / 2 ^ i ∧ 64 / 2 ^ i ≤ 64 ∧ 2 * 2 ^ i ≤ 128 ∧ 128 / 2 ^ i - 1 = 2 * (64 / 2 ^ i) - 1 ∧ 64 / 2 ^ i - 1 = 128 / 2 ^ (i + 1) - 1 := by decide
theorem q_ring_Inv : ∀ x r, g_ring_Inv x = some r → ∃ N, p_ring_Inv N x = some r := by
  refine Spec_of (ks := p_ring_Inv_ks) (rs := p_ring_Inv_rs) fun x hw _ => ⟨300, ?_⟩
  obtain ⟨(a : List Int), u⟩ := x
  have ha := wf_one.1 hw
  unfold p_ring_Inv
  refine (congrArg (fun o => Option.bind o _) (at37 ha)).trans ?_
  refine (congrArg (fun o => Option.bind o _) at46).trans ?_
  simp only [Option.bind_some]
  refine (iter_run (F := p_ring_Inv_l5_F 300) (s := fun i => (((128 / 2 ^ i - 1 : Nat) : Int), ((2 * 2 ^ i : Nat) : Int), iStage a i, List.replicate 256 0, (List.range 128).map zeta, ())) (y := (iStage a 7, List.replicate 256 0, ())) 7 ?_ ?_ 300 (by omega)).trans ?_
  · intro i hi kn
    obtain ⟨f1, f2, f3, f4, f5, f6⟩ := istage_facts i hi
    unfold p_ring_Inv_l5_F
    dsimp only
    rw [if_pos (show ((2 * 2 ^ i : Nat) : Int) ≤ 128 from Int.ofNat_le.2 f4), f5]
    refine (inv_layer f1 (Nat.mul_pos (by decide) (Nat.two_pow_pos i)) f2 f3 (Nat.le_refl _) (red_iStage a i) _ _).trans ?_
    simp (disch := omega) only [wrap_i64]
    rw [f6, Nat.pow_succ]
    have : ((2 * 2 ^ i : Nat) : Int) * 2 = ((2 * (2 ^ i * 2) : Nat) : Int) := by omega
    rw [this]
    rfl
  · intro kn
    unfold p_ring_Inv_l5_F
    dsimp only
    rw [if_neg (by decide)]
  have hr := red_iStage a 7
  refine (iter_run (F := p_ring_Inv_l17_F 300) (s := fun i => ((i : Int), part (fun j => (iStage a 7).getD j 0 * 3303 % 3329) i (iStage a 7), List.replicate 256 0, ())) (y := (fInv a, List.replicate 256 0, ())) 256 ?_ ?_ 300 (by omega)).trans ?_
  · intro i hi kn
    have h0 := hr.2 i
    have ht := at47 (a := (iStage a 7).getD i 0) (b := 3303) (by omega) (by omega)
    unfold p_ring_Inv_l17_F
    simp (disch := omega) only [if_pos, wrap_i64, Int.toNat_natCast, part_getD (Nat.le_refl i), ht, Option.bind_some]
    rw [part_set' (h := fun j => (iStage a 7).getD j 0 * 3303 % 3329) (by rw [hr.1]; omega) rfl]
    rfl
  · intro kn
    unfold p_ring_Inv_l17_F
    dsimp only
    rw [if_neg (by decide), part_all hr.1]
    rfl
  · rfl
theorem at26 {a : List Int} (h : u16s 256 a) : g_ring_Inv (a, ()) = some (fInv a) := Spec_at (ks := p_ring_Inv_ks) (rs := p_ring_Inv_rs) (wf_one.2 h) trivial
def cg (x y : Int) : Prop := ∃ k : Int, x = y + 3329 * k
theorem cg.refl (x : Int) : cg x x := ⟨0, by omega⟩
theorem cg.symm {x y : Int} (h : cg x y) : cg y x := by obtain ⟨k, h⟩ := h; exact ⟨-k, by omega⟩
theorem cg.trans {x y z : Int} (h : cg x y) (g : cg y z) : cg x z := by obtain ⟨k, h⟩ := h; obtain ⟨l, g⟩ := g; exact ⟨k + l, by omega⟩
theorem cg.add {x y z w : Int} (h : cg x y) (g : cg z w) : cg (x + z) (y + w) := by obtain ⟨k, h⟩ := h; obtain ⟨l, g⟩ := g; exact ⟨k + l, by omega⟩
theorem cg.sub {x y z w : Int} (h : cg x y) (g : cg z w) : cg (x - z) (y - w) := by obtain ⟨k, h⟩ := h; obtain ⟨l, g⟩ := g; exact ⟨k - l, by omega⟩
theorem cg.mul {x y z w : Int} (h : cg x y) (g : cg z w) : cg (x * z) (y * w) := by
  obtain ⟨k, h⟩ := h; obtain ⟨l, g⟩ := g
  exact ⟨y * l + k * w + 3329 * (k * l), by subst h; subst g; grind⟩
theorem cg.mod (x : Int) : cg (x % 3329) x := ⟨-(x / 3329), by omega⟩
theorem red_fNtt (a : List Int) : red (fNtt a) := by rw [fNtt_eq]; exact red_nStage a 7
theorem red_fInv (a : List Int) : red (fInv a) := red_poly fun i _ => by omega
theorem red_fAdd (a b : List Int) : red (fAdd a b) := red_poly fun i _ => by omega
theorem red_fSub (a b : List Int) : red (fSub a b) := red_poly fun i _ => by omega
theorem red_fMulN (a b : List Int) : red (fMulN a b) := red_poly fun i _ => by unfold mval; split <;> omega
theorem red_u16 {a : List Int} (h : red a) : u16s 256 a := h.u16
theorem q_ring_Add : ∀ x r, g_ring_Add x = some r → ∃ N, p_ring_Add N x = some r := by
  refine Spec_of (ks := p_ring_Add_ks) (rs := p_ring_Add_rs) fun x hw _ => ⟨300, ?_⟩
  obtain ⟨(a : List Int), (b : List Int), u⟩ := x
  obtain ⟨ha, hb⟩ := wf_pp.1 hw
  unfold p_ring_Add
  simp only [at37 ha, at37 hb, Option.bind_some]
  have hl := (fRed_u16 a).1
  refine (iter_run (F := p_ring_Add_l3_F 300) (s := fun i => ((i : Int), part (fun j => (a.getD j 0 + b.getD j 0) % 3329) i (fRed a), fRed b, List.replicate 256 0, ())) (y := (fAdd a b, List.replicate 256 0, ())) 256 ?_ ?_ 300 (by omega)).trans ?_
  · intro i hi kn
    have e1 : (fRed a).getD i 0 = a.getD i 0 % 3329 := by rw [fRed, poly_getD hi]
    have e2 : (fRed b).getD i 0 = b.getD i 0 % 3329 := by rw [fRed, poly_getD hi]
    unfold p_ring_Add_l3_F
    simp (disch := omega) only [if_pos, wrap_i64, Int.toNat_natCast, part_getD (Nat.le_refl i), e1, e2, wrap_u16, tmod_pos]
    rw [part_set' (h := fun j => (a.getD j 0 + b.getD j 0) % 3329) (by omega) (by omega)]
    rfl
  · intro kn
    unfold p_ring_Add_l3_F
    dsimp only
    rw [if_neg (by decide), part_all hl]
    rfl
  · rfl
theorem q_ring_Sub : ∀ x r, g_ring_Sub x = some r → ∃ N, p_ring_Sub N x = some r := by
  refine Spec_of (ks := p_ring_Sub_ks) (rs := p_ring_Sub_rs) fun x hw _ => ⟨300, ?_⟩
  obtain ⟨(a : List Int), (b : List Int), u⟩ := x
  obtain ⟨ha, hb⟩ := wf_pp.1 hw
  unfold p_ring_Sub
  simp only [at37 ha, at37 hb, Option.bind_some]
  have hl := (fRed_u16 a).1
  refine (iter_run (F := p_ring_Sub_l3_F 300) (s := fun i => ((i : Int), part (fun j => (a.getD j 0 - b.getD j 0) % 3329) i (fRed a), fRed b, List.replicate 256 0, ())) (y := (fSub a b, List.replicate 256 0, ())) 256 ?_ ?_ 300 (by omega)).trans ?_
  · intro i hi kn
    have e1 : (fRed a).getD i 0 = a.getD i 0 % 3329 := by rw [fRed, poly_getD hi]
    have e2 : (fRed b).getD i 0 = b.getD i 0 % 3329 := by rw [fRed, poly_getD hi]
    unfold p_ring_Sub_l3_F
    simp (disch := omega) only [if_pos, wrap_i64, Int.toNat_natCast, part_getD (Nat.le_refl i), e1, e2, wrap_u16, tmod_pos]
    rw [part_set' (h := fun j => (a.getD j 0 - b.getD j 0) % 3329) (by omega) (by omega)]
    rfl
  · intro kn
    unfold p_ring_Sub_l3_F
    dsimp only
    rw [if_neg (by decide), part_all hl]
    rfl
  · rfl
theorem at29 {a b : List Int} (ha : u16s 256 a) (hb : u16s 256 b) : g_ring_Add (a, b, ()) = some (fAdd a b) := Spec_at (ks := p_ring_Add_ks) (rs := p_ring_Add_rs) (wf_pp.2 ⟨ha, hb⟩) trivial
theorem at40 {a b : List Int} (ha : u16s 256 a) (hb : u16s 256 b) : g_ring_Sub (a, b, ()) = some (fSub a b) := Spec_at (ks := p_ring_Sub_ks) (rs := p_ring_Sub_rs) (wf_pp.2 ⟨ha, hb⟩) trivial
def sum : Nat → (Nat → Int) → Int
  | 0, _ => 0
  | n + 1, f => sum n f + f n
theorem cg.pow {x y : Int} (h : cg x y) (n : Nat) : cg (x ^ n) (y ^ n) := by
  induction n with
  | zero => rw [Int.pow_zero, Int.pow_zero]; exact cg.refl _
  | succ n ih => rw [Int.pow_succ, Int.pow_succ]; exact ih.mul h
def ev (a : List Int) (n L r : Nat) (c : Int) : Int := sum n fun j => a.getD (j * L + r) 0 * c ^ j
def cv (a b : List Int) (i n : Nat) : Int := sum i fun u => if u ≤ n ∧ n < u + 256 then (fRed a).getD u 0 * (fRed b).getD (n - u) 0 else 0
def E (a : List Int) (e : Nat) (p : Int) : Int := ev (fRed a) 128 2 e p
end Go.Ax.TryP
