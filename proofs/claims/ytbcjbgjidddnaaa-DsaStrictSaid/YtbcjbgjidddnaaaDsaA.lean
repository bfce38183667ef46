/- A part of the proof: DsT, DsI, DkS1, DkP1, DkQ1, DkS2, DkP2, DkQ2. -/
import Derived.Test.YtbcjbgjidddnaaaAxD
import Derived.Test.YtbcjbgjidddnaaaProg
set_option linter.unusedVariables false
namespace Go.Ax.TryP
open Go.Proofs
abbrev U : TV := .one .any
abbrev V : HV := .any
abbrev b8 : CK := .int .u8
abbrev b16 : CK := .int .u16
abbrev b32 : CK := .int .i32
abbrev b64 : CK := .int .i64
theorem mix : Try.prog.follows .mixedOrders = true := by kernel_rfl
noncomputable def ty2 : TyI where
 td := .int .i64
 size := 1
 bytes := 8
 zero := [.xs b64 1 [0]]
theorem a88 : TyOk Try.prog 2 ty2 :=
 TyOk.of (f := Try.t2) (z := (Try.t2.zero).getD .nilIface) (cs := (a00 ty2.zero).getD []) Try.underlying2 (by kernel_rfl) (by kernel_rfl) ⟨by kernel_rfl, by kernel_rfl⟩ (by kernel_rfl) (by kernel_rfl) (by kernel_rfl) (by kernel_rfl) (by kernel_rfl)
noncomputable def ty3 : TyI where
 td := .int .i64
 size := 1
 bytes := 8
 zero := [.xs b64 1 [0]]
theorem a5x : TyOk Try.prog 3 ty3 :=
 TyOk.of (f := Try.t3) (z := (Try.t3.zero).getD .nilIface) (cs := (a00 ty3.zero).getD []) Try.underlying3 (by kernel_rfl) (by kernel_rfl) ⟨by kernel_rfl, by kernel_rfl⟩ (by kernel_rfl) (by kernel_rfl) (by kernel_rfl) (by kernel_rfl) (by kernel_rfl)
noncomputable def ty4 : TyI where
 td := .bool
 size := 1
 bytes := 1
 zero := [.xs .bool 1 [0]]
theorem c3B : TyOk Try.prog 4 ty4 :=
 TyOk.of (f := Try.t4) (z := (Try.t4.zero).getD .nilIface) (cs := (a00 ty4.zero).getD []) Try.underlying4 (by kernel_rfl) (by kernel_rfl) ⟨by kernel_rfl, by kernel_rfl⟩ (by kernel_rfl) (by kernel_rfl) (by kernel_rfl) (by kernel_rfl) (by kernel_rfl)
noncomputable def ty5 : TyI where
 td := .int .u8
 size := 1
 bytes := 1
 zero := [.xs b8 1 [0]]
theorem Z1 : TyOk Try.prog 5 ty5 :=
 TyOk.of (f := Try.t5) (z := (Try.t5.zero).getD .nilIface) (cs := (a00 ty5.zero).getD []) Try.underlying5 (by kernel_rfl) (by kernel_rfl) ⟨by kernel_rfl, by kernel_rfl⟩ (by kernel_rfl) (by kernel_rfl) (by kernel_rfl) (by kernel_rfl) (by kernel_rfl)
noncomputable def ty9 : TyI where
 td := .str
 size := 1
 bytes := 16
 zero := [.one (.str (⟨#[]⟩ : ByteArray))]
theorem d8s : TyOk Try.prog 9 ty9 :=
 TyOk.of (f := Try.t9) (z := (Try.t9.zero).getD .nilIface) (cs := (a00 ty9.zero).getD []) Try.underlying9 (by kernel_rfl) (by kernel_rfl) ⟨by kernel_rfl, by kernel_rfl⟩ (by kernel_rfl) (by kernel_rfl) (by kernel_rfl) (by kernel_rfl) (by kernel_rfl)
noncomputable def ty21 : TyI where
 td := .int .i32
 size := 1
 bytes := 4
 zero := [.xs b32 1 [0]]
theorem u4 : TyOk Try.prog 21 ty21 :=
 TyOk.of (f := Try.t21) (z := (Try.t21.zero).getD .nilIface) (cs := (a00 ty21.zero).getD []) Try.underlying21 (by kernel_rfl) (by kernel_rfl) ⟨by kernel_rfl, by kernel_rfl⟩ (by kernel_rfl) (by kernel_rfl) (by kernel_rfl) (by kernel_rfl) (by kernel_rfl)
noncomputable def ty22 : TyI where
 td := .arr 32 5
 size := 32
 bytes := 32
 zero := [.xs b8 32 (List.replicate 32 0)]
theorem c4R : TyOk Try.prog 22 ty22 :=
 TyOk.of (f := Try.t22) (z := (Try.t22.zero).getD .nilIface) (cs := (a00 ty22.zero).getD []) Try.underlying22 (by kernel_rfl) (by kernel_rfl) ⟨by kernel_rfl, by kernel_rfl⟩ (by kernel_rfl) (by kernel_rfl) (by kernel_rfl) (by kernel_rfl) (by kernel_rfl)
noncomputable def ty23 : TyI where
 td := .sl 5
 size := 1
 bytes := 24
 zero := [.one (.nilsl)]
theorem F8 : TyOk Try.prog 23 ty23 :=
 TyOk.of (f := Try.t23) (z := (Try.t23.zero).getD .nilIface) (cs := (a00 ty23.zero).getD []) Try.underlying23 (by kernel_rfl) (by kernel_rfl) ⟨by kernel_rfl, by kernel_rfl⟩ (by kernel_rfl) (by kernel_rfl) (by kernel_rfl) (by kernel_rfl) (by kernel_rfl)
noncomputable def ty26 : TyI where
 td := .int .i64
 size := 1
 bytes := 8
 zero := [.xs b64 1 [0]]
theorem c2e : TyOk Try.prog 26 ty26 :=
 TyOk.of (f := Try.t26) (z := (Try.t26.zero).getD .nilIface) (cs := (a00 ty26.zero).getD []) Try.underlying26 (by kernel_rfl) (by kernel_rfl) ⟨by kernel_rfl, by kernel_rfl⟩ (by kernel_rfl) (by kernel_rfl) (by kernel_rfl) (by kernel_rfl) (by kernel_rfl)
noncomputable def ty35 : TyI where
 td := .sl 23
 size := 1
 bytes := 24
 zero := [.one (.nilsl)]
theorem a2C : TyOk Try.prog 35 ty35 :=
 TyOk.of (f := Try.t35) (z := (Try.t35.zero).getD .nilIface) (cs := (a00 ty35.zero).getD []) Try.underlying35 (by kernel_rfl) (by kernel_rfl) ⟨by kernel_rfl, by kernel_rfl⟩ (by kernel_rfl) (by kernel_rfl) (by kernel_rfl) (by kernel_rfl) (by kernel_rfl)
noncomputable def ty39 : TyI where
 td := .arr 256 21
 size := 256
 bytes := 1024
 zero := [.xs b32 256 (List.replicate 256 0)]
theorem c8i : TyOk Try.prog 39 ty39 :=
 TyOk.of (f := Try.t39) (z := (Try.t39.zero).getD .nilIface) (cs := (a00 ty39.zero).getD []) Try.underlying39 (by kernel_rfl) (by kernel_rfl) ⟨by kernel_rfl, by kernel_rfl⟩ (by kernel_rfl) (by kernel_rfl) (by kernel_rfl) (by kernel_rfl) (by kernel_rfl)
noncomputable def ty40 : TyI where
 td := .arr 256 21
 size := 256
 bytes := 1024
 zero := [.xs b32 256 (List.replicate 256 0)]
theorem q8 : TyOk Try.prog 40 ty40 :=
 TyOk.of (f := Try.t40) (z := (Try.t40.zero).getD .nilIface) (cs := (a00 ty40.zero).getD []) Try.underlying40 (by kernel_rfl) (by kernel_rfl) ⟨by kernel_rfl, by kernel_rfl⟩ (by kernel_rfl) (by kernel_rfl) (by kernel_rfl) (by kernel_rfl) (by kernel_rfl)
noncomputable def ty42 : TyI where
 td := .arr 5 40
 size := 1280
 bytes := 5120
 zero := [.xs b32 1280 (List.replicate 1280 0)]
theorem b5f : TyOk Try.prog 42 ty42 :=
 TyOk.of (f := Try.t42) (z := (Try.t42.zero).getD .nilIface) (cs := (a00 ty42.zero).getD []) Try.underlying42 (by kernel_rfl) (by kernel_rfl) ⟨by kernel_rfl, by kernel_rfl⟩ (by kernel_rfl) (by kernel_rfl) (by kernel_rfl) (by kernel_rfl) (by kernel_rfl)
noncomputable def ty44 : TyI where
 td := .arr 6 40
 size := 1536
 bytes := 6144
 zero := [.xs b32 1536 (List.replicate 1536 0)]
theorem b5g : TyOk Try.prog 44 ty44 :=
 TyOk.of (f := Try.t44) (z := (Try.t44.zero).getD .nilIface) (cs := (a00 ty44.zero).getD []) Try.underlying44 (by kernel_rfl) (by kernel_rfl) ⟨by kernel_rfl, by kernel_rfl⟩ (by kernel_rfl) (by kernel_rfl) (by kernel_rfl) (by kernel_rfl) (by kernel_rfl)
noncomputable def ty60 : TyI where
 td := .st [(0, 23), (1, 23), (2, 23), (3, 42), (1283, 44), (2819, 44)]
 size := 4355
 bytes := 17480
 zero := [.one (.nilsl), .one (.nilsl), .one (.nilsl), .xs b32 1280 (List.replicate 1280 0), .xs b32 1536 (List.replicate 1536 0), .xs b32 1536 (List.replicate 1536 0)]
theorem c8j : TyOk Try.prog 60 ty60 :=
 TyOk.of (f := Try.t60) (z := (Try.t60.zero).getD .nilIface) (cs := (a00 ty60.zero).getD []) Try.underlying60 (by kernel_rfl) (by kernel_rfl) ⟨by kernel_rfl, by kernel_rfl⟩ (by kernel_rfl) (by kernel_rfl) (by kernel_rfl) (by kernel_rfl) (by kernel_rfl)
noncomputable def ty69 : TyI where
 td := .sl 76
 size := 1
 bytes := 24
 zero := [.one (.nilsl)]
theorem c4S : TyOk Try.prog 69 ty69 :=
 TyOk.of (f := Try.t69) (z := (Try.t69.zero).getD .nilIface) (cs := (a00 ty69.zero).getD []) Try.underlying69 (by kernel_rfl) (by kernel_rfl) ⟨by kernel_rfl, by kernel_rfl⟩ (by kernel_rfl) (by kernel_rfl) (by kernel_rfl) (by kernel_rfl) (by kernel_rfl)
noncomputable def ty73 : TyI where
 td := .int .u64
 size := 1
 bytes := 8
 zero := [.xs (.int .u64) 1 [0]]
theorem d6U : TyOk Try.prog 73 ty73 :=
 TyOk.of (f := Try.t73) (z := (Try.t73.zero).getD .nilIface) (cs := (a00 ty73.zero).getD []) Try.underlying73 (by kernel_rfl) (by kernel_rfl) ⟨by kernel_rfl, by kernel_rfl⟩ (by kernel_rfl) (by kernel_rfl) (by kernel_rfl) (by kernel_rfl) (by kernel_rfl)
noncomputable def ty76 : TyI where
 td := .arr 256 4
 size := 256
 bytes := 256
 zero := [.xs .bool 256 (List.replicate 256 0)]
theorem b8x : TyOk Try.prog 76 ty76 :=
 TyOk.of (f := Try.t76) (z := (Try.t76.zero).getD .nilIface) (cs := (a00 ty76.zero).getD []) Try.underlying76 (by kernel_rfl) (by kernel_rfl) ⟨by kernel_rfl, by kernel_rfl⟩ (by kernel_rfl) (by kernel_rfl) (by kernel_rfl) (by kernel_rfl) (by kernel_rfl)
noncomputable def ty83 : TyI where
 td := .arr 2 5
 size := 2
 bytes := 2
 zero := [.xs b8 2 (List.replicate 2 0)]
theorem d6V : TyOk Try.prog 83 ty83 :=
 TyOk.of (f := Try.t83) (z := (Try.t83.zero).getD .nilIface) (cs := (a00 ty83.zero).getD []) Try.underlying83 (by kernel_rfl) (by kernel_rfl) ⟨by kernel_rfl, by kernel_rfl⟩ (by kernel_rfl) (by kernel_rfl) (by kernel_rfl) (by kernel_rfl) (by kernel_rfl)
noncomputable def ty88 : TyI where
 td := .arr 6 42
 size := 7680
 bytes := 30720
 zero := [.xs b32 7680 (List.replicate 7680 0)]
theorem d25 : TyOk Try.prog 88 ty88 :=
 TyOk.of (f := Try.t88) (z := (Try.t88.zero).getD .nilIface) (cs := (a00 ty88.zero).getD []) Try.underlying88 (by kernel_rfl) (by kernel_rfl) ⟨by kernel_rfl, by kernel_rfl⟩ (by kernel_rfl) (by kernel_rfl) (by kernel_rfl) (by kernel_rfl) (by kernel_rfl)
noncomputable def ty91 : TyI where
 td := .arr 256 2
 size := 256
 bytes := 2048
 zero := [.xs b64 256 (List.replicate 256 0)]
theorem c8k : TyOk Try.prog 91 ty91 :=
 TyOk.of (f := Try.t91) (z := (Try.t91.zero).getD .nilIface) (cs := (a00 ty91.zero).getD []) Try.underlying91 (by kernel_rfl) (by kernel_rfl) ⟨by kernel_rfl, by kernel_rfl⟩ (by kernel_rfl) (by kernel_rfl) (by kernel_rfl) (by kernel_rfl) (by kernel_rfl)
noncomputable def ty102 : TyI where
 td := .ptr 114
 size := 1
 bytes := 8
 zero := [.one (.nilp)]
theorem d4A : TyOk Try.prog 102 ty102 :=
 TyOk.of (f := Try.t102) (z := (Try.t102.zero).getD .nilIface) (cs := (a00 ty102.zero).getD []) Try.underlying102 (by kernel_rfl) (by kernel_rfl) ⟨by kernel_rfl, by kernel_rfl⟩ (by kernel_rfl) (by kernel_rfl) (by kernel_rfl) (by kernel_rfl) (by kernel_rfl)
noncomputable def ty109 : TyI where
 td := .int .u64
 size := 1
 bytes := 8
 zero := [.xs (.int .u64) 1 [0]]
theorem b6Z : TyOk Try.prog 109 ty109 :=
 TyOk.of (f := Try.t109) (z := (Try.t109.zero).getD .nilIface) (cs := (a00 ty109.zero).getD []) Try.underlying109 (by kernel_rfl) (by kernel_rfl) ⟨by kernel_rfl, by kernel_rfl⟩ (by kernel_rfl) (by kernel_rfl) (by kernel_rfl) (by kernel_rfl) (by kernel_rfl)
noncomputable def ty110 : TyI where
 td := .arr 25 109
 size := 25
 bytes := 200
 zero := [.xs (.int .u64) 25 (List.replicate 25 0)]
theorem b2H : TyOk Try.prog 110 ty110 :=
 TyOk.of (f := Try.t110) (z := (Try.t110.zero).getD .nilIface) (cs := (a00 ty110.zero).getD []) Try.underlying110 (by kernel_rfl) (by kernel_rfl) ⟨by kernel_rfl, by kernel_rfl⟩ (by kernel_rfl) (by kernel_rfl) (by kernel_rfl) (by kernel_rfl) (by kernel_rfl)
noncomputable def ty112 : TyI where
 td := .st [(0, 110), (25, 3), (26, 3)]
 size := 27
 bytes := 216
 zero := [.xs (.int .u64) 25 (List.replicate 25 0), .xs b64 1 [0], .xs b64 1 [0]]
theorem b60 : TyOk Try.prog 112 ty112 :=
 TyOk.of (f := Try.t112) (z := (Try.t112.zero).getD .nilIface) (cs := (a00 ty112.zero).getD []) Try.underlying112 (by kernel_rfl) (by kernel_rfl) ⟨by kernel_rfl, by kernel_rfl⟩ (by kernel_rfl) (by kernel_rfl) (by kernel_rfl) (by kernel_rfl) (by kernel_rfl)
noncomputable def ty114 : TyI where
 td := .st [(0, 4), (1, 112), (28, 3)]
 size := 29
 bytes := 232
 zero := [.xs .bool 1 [0], .xs (.int .u64) 25 (List.replicate 25 0), .xs b64 1 [0], .xs b64 1 [0], .xs b64 1 [0]]
theorem c4P : TyOk Try.prog 114 ty114 :=
 TyOk.of (f := Try.t114) (z := (Try.t114.zero).getD .nilIface) (cs := (a00 ty114.zero).getD []) Try.underlying114 (by kernel_rfl) (by kernel_rfl) ⟨by kernel_rfl, by kernel_rfl⟩ (by kernel_rfl) (by kernel_rfl) (by kernel_rfl) (by kernel_rfl) (by kernel_rfl)
noncomputable def ty120 : TyI where
 td := .arr 25 3
 size := 25
 bytes := 200
 zero := [.xs b64 25 (List.replicate 25 0)]
theorem c4Q : TyOk Try.prog 120 ty120 :=
 TyOk.of (f := Try.t120) (z := (Try.t120.zero).getD .nilIface) (cs := (a00 ty120.zero).getD []) Try.underlying120 (by kernel_rfl) (by kernel_rfl) ⟨by kernel_rfl, by kernel_rfl⟩ (by kernel_rfl) (by kernel_rfl) (by kernel_rfl) (by kernel_rfl) (by kernel_rfl)
noncomputable def ty122 : TyI where
 td := .arr 24 109
 size := 24
 bytes := 192
 zero := [.xs (.int .u64) 24 (List.replicate 24 0)]
theorem c9G : TyOk Try.prog 122 ty122 :=
 TyOk.of (f := Try.t122) (z := (Try.t122.zero).getD .nilIface) (cs := (a00 ty122.zero).getD []) Try.underlying122 (by kernel_rfl) (by kernel_rfl) ⟨by kernel_rfl, by kernel_rfl⟩ (by kernel_rfl) (by kernel_rfl) (by kernel_rfl) (by kernel_rfl) (by kernel_rfl)
noncomputable def ty126 : TyI where
 td := .arr 5 109
 size := 5
 bytes := 40
 zero := [.xs (.int .u64) 5 (List.replicate 5 0)]
theorem d4B : TyOk Try.prog 126 ty126 :=
 TyOk.of (f := Try.t126) (z := (Try.t126.zero).getD .nilIface) (cs := (a00 ty126.zero).getD []) Try.underlying126 (by kernel_rfl) (by kernel_rfl) ⟨by kernel_rfl, by kernel_rfl⟩ (by kernel_rfl) (by kernel_rfl) (by kernel_rfl) (by kernel_rfl) (by kernel_rfl)
theorem b7n : i0 Try.prog 6 := ⟨Try.f6, Try.func6, by kernel_rfl, by kernel_rfl⟩
theorem b9a : i0 Try.prog 7 := ⟨Try.f7, Try.func7, by kernel_rfl, by kernel_rfl⟩
theorem a8n : i0 Try.prog 8 := ⟨Try.f8, Try.func8, by kernel_rfl, by kernel_rfl⟩
theorem c0O : i0 Try.prog 9 := ⟨Try.f9, Try.func9, by kernel_rfl, by kernel_rfl⟩
theorem a8o : i0 Try.prog 10 := ⟨Try.f10, Try.func10, by kernel_rfl, by kernel_rfl⟩
theorem a3Y : i0 Try.prog 12 := ⟨Try.f12, Try.func12, by kernel_rfl, by kernel_rfl⟩
theorem a0t : i0 Try.prog 13 := ⟨Try.f13, Try.func13, by kernel_rfl, by kernel_rfl⟩
theorem A4 : i0 Try.prog 14 := ⟨Try.f14, Try.func14, by kernel_rfl, by kernel_rfl⟩
theorem a9i : i0 Try.prog 15 := ⟨Try.f15, Try.func15, by kernel_rfl, by kernel_rfl⟩
theorem a03 : i0 Try.prog 16 := ⟨Try.f16, Try.func16, by kernel_rfl, by kernel_rfl⟩
theorem b3E : i0 Try.prog 17 := ⟨Try.f17, Try.func17, by kernel_rfl, by kernel_rfl⟩
theorem a3Z : i0 Try.prog 18 := ⟨Try.f18, Try.func18, by kernel_rfl, by kernel_rfl⟩
theorem a2W : i0 Try.prog 19 := ⟨Try.f19, Try.func19, by kernel_rfl, by kernel_rfl⟩
theorem a8j : i0 Try.prog 20 := ⟨Try.f20, Try.func20, by kernel_rfl, by kernel_rfl⟩
theorem a1X : i0 Try.prog 21 := ⟨Try.f21, Try.func21, by kernel_rfl, by kernel_rfl⟩
theorem Z3 : i0 Try.prog 22 := ⟨Try.f22, Try.func22, by kernel_rfl, by kernel_rfl⟩
theorem a8i : i0 Try.prog 23 := ⟨Try.f23, Try.func23, by kernel_rfl, by kernel_rfl⟩
theorem a4G : i0 Try.prog 24 := ⟨Try.f24, Try.func24, by kernel_rfl, by kernel_rfl⟩
theorem c0P : i0 Try.prog 25 := ⟨Try.f25, Try.func25, by kernel_rfl, by kernel_rfl⟩
theorem b0c : i0 Try.prog 26 := ⟨Try.f26, Try.func26, by kernel_rfl, by kernel_rfl⟩
theorem b1k : i0 Try.prog 27 := ⟨Try.f27, Try.func27, by kernel_rfl, by kernel_rfl⟩
theorem b3D : i0 Try.prog 28 := ⟨Try.f28, Try.func28, by kernel_rfl, by kernel_rfl⟩
theorem I9 : i0 Try.prog 29 := ⟨Try.f29, Try.func29, by kernel_rfl, by kernel_rfl⟩
theorem a3X : i0 Try.prog 30 := ⟨Try.f30, Try.func30, by kernel_rfl, by kernel_rfl⟩
theorem a8k : i0 Try.prog 31 := ⟨Try.f31, Try.func31, by kernel_rfl, by kernel_rfl⟩
theorem a5a : i0 Try.prog 32 := ⟨Try.f32, Try.func32, by kernel_rfl, by kernel_rfl⟩
theorem a8h : i0 Try.prog 33 := ⟨Try.f33, Try.func33, by kernel_rfl, by kernel_rfl⟩
theorem a2E : i0 Try.prog 34 := ⟨Try.f34, Try.func34, by kernel_rfl, by kernel_rfl⟩
theorem a59 : i0 Try.prog 35 := ⟨Try.f35, Try.func35, by kernel_rfl, by kernel_rfl⟩
theorem a49 : i0 Try.prog 36 := ⟨Try.f36, Try.func36, by kernel_rfl, by kernel_rfl⟩
theorem b0b : i0 Try.prog 37 := ⟨Try.f37, Try.func37, by kernel_rfl, by kernel_rfl⟩
theorem a2r : i0 Try.prog 38 := ⟨Try.f38, Try.func38, by kernel_rfl, by kernel_rfl⟩
theorem b2M : i0 Try.prog 39 := ⟨Try.f39, Try.func39, by kernel_rfl, by kernel_rfl⟩
theorem b7o : i0 Try.prog 40 := ⟨Try.f40, Try.func40, by kernel_rfl, by kernel_rfl⟩
theorem a5p : i0 Try.prog 41 := ⟨Try.f41, Try.func41, by kernel_rfl, by kernel_rfl⟩
theorem U5 : i0 Try.prog 42 := ⟨Try.f42, Try.func42, by kernel_rfl, by kernel_rfl⟩
theorem a0s : i0 Try.prog 43 := ⟨Try.f43, Try.func43, by kernel_rfl, by kernel_rfl⟩
theorem b7m : i0 Try.prog 44 := ⟨Try.f44, Try.func44, by kernel_rfl, by kernel_rfl⟩
theorem o5 : i0 Try.prog 45 := ⟨Try.f45, Try.func45, by kernel_rfl, by kernel_rfl⟩
theorem b31 : i0 Try.prog 46 := ⟨Try.f46, Try.func46, by kernel_rfl, by kernel_rfl⟩
theorem U4 : i0 Try.prog 47 := ⟨Try.f47, Try.func47, by kernel_rfl, by kernel_rfl⟩
theorem a8l : i0 Try.prog 48 := ⟨Try.f48, Try.func48, by kernel_rfl, by kernel_rfl⟩
theorem a8m : i0 Try.prog 49 := ⟨Try.f49, Try.func49, by kernel_rfl, by kernel_rfl⟩
theorem a58 : i0 Try.prog 50 := ⟨Try.f50, Try.func50, by kernel_rfl, by kernel_rfl⟩
theorem b89 : i0 Try.prog 51 := ⟨Try.f51, Try.func51, by kernel_rfl, by kernel_rfl⟩
theorem b7l : i0 Try.prog 52 := ⟨Try.f52, Try.func52, by kernel_rfl, by kernel_rfl⟩
theorem a0a : i0 Try.prog 53 := ⟨Try.f53, Try.func53, by kernel_rfl, by kernel_rfl⟩
theorem b88 : i0 Try.prog 54 := ⟨Try.f54, Try.func54, by kernel_rfl, by kernel_rfl⟩
theorem b1i : i0 Try.prog 55 := ⟨Try.f55, Try.func55, by kernel_rfl, by kernel_rfl⟩
theorem b0u : i0 Try.prog 56 := ⟨Try.f56, Try.func56, by kernel_rfl, by kernel_rfl⟩
theorem a02 : i0 Try.prog 57 := ⟨Try.f57, Try.func57, by kernel_rfl, by kernel_rfl⟩
theorem a7F : i0 Try.prog 58 := ⟨Try.f58, Try.func58, by kernel_rfl, by kernel_rfl⟩
theorem a6a : i0 Try.prog 59 := ⟨Try.f59, Try.func59, by kernel_rfl, by kernel_rfl⟩
theorem N5 : i0 Try.prog 60 := ⟨Try.f60, Try.func60, by kernel_rfl, by kernel_rfl⟩
theorem b5v : i0 Try.prog 61 := ⟨Try.f61, Try.func61, by kernel_rfl, by kernel_rfl⟩
theorem a8p : i0 Try.prog 62 := ⟨Try.f62, Try.func62, by kernel_rfl, by kernel_rfl⟩
theorem a3F : i0 Try.prog 63 := ⟨Try.f63, Try.func63, by kernel_rfl, by kernel_rfl⟩
theorem a3G : i0 Try.prog 64 := ⟨Try.f64, Try.func64, by kernel_rfl, by kernel_rfl⟩
theorem b0v : i0 Try.prog 65 := ⟨Try.f65, Try.func65, by kernel_rfl, by kernel_rfl⟩
theorem b1j : i0 Try.prog 66 := ⟨Try.f66, Try.func66, by kernel_rfl, by kernel_rfl⟩
theorem b2N : i0 Try.prog 67 := ⟨Try.f67, Try.func67, by kernel_rfl, by kernel_rfl⟩
theorem b5w : i0 Try.prog 68 := ⟨Try.f68, Try.func68, by kernel_rfl, by kernel_rfl⟩
theorem b2L : i0 Try.prog 69 := ⟨Try.f69, Try.func69, by kernel_rfl, by kernel_rfl⟩
theorem a4I : i0 Try.prog 70 := ⟨Try.f70, Try.func70, by kernel_rfl, by kernel_rfl⟩
theorem b0w : i0 Try.prog 71 := ⟨Try.f71, Try.func71, by kernel_rfl, by kernel_rfl⟩
theorem a6N : i0 Try.prog 72 := ⟨Try.f72, Try.func72, by kernel_rfl, by kernel_rfl⟩
theorem a6O : i0 Try.prog 73 := ⟨Try.f73, Try.func73, by kernel_rfl, by kernel_rfl⟩
theorem a4H : i0 Try.prog 74 := ⟨Try.f74, Try.func74, by kernel_rfl, by kernel_rfl⟩
theorem a8q : i0 Try.prog 75 := ⟨Try.f75, Try.func75, by kernel_rfl, by kernel_rfl⟩
theorem b1l : i0 Try.prog 76 := ⟨Try.f76, Try.func76, by kernel_rfl, by kernel_rfl⟩
theorem a9j : i0 Try.prog 77 := ⟨Try.f77, Try.func77, by kernel_rfl, by kernel_rfl⟩
theorem b33 : i0 Try.prog 78 := ⟨Try.f78, Try.func78, by kernel_rfl, by kernel_rfl⟩
theorem a8g : i0 Try.prog 79 := ⟨Try.f79, Try.func79, by kernel_rfl, by kernel_rfl⟩
end Go.Ax.TryP
set_option linter.unusedVariables false
namespace Go.Ax.TryP
open Go.Proofs
noncomputable def c5L : AE := AE.ofI [(26, ty26)] [] [] [] [] [] []
noncomputable def a5U : Inl := d12 c5L 0 Try.f43
theorem a26 : b86 Try.prog 43 a5U := c0c (AE.ofI_ok (all_cons c2e c6) c6 c6 c6 c6) mix Try.func43 0
noncomputable def c5M : AE := AE.ofI [(40, ty40)] [] [] [(43, a5U)] [] [] []
noncomputable def a07 : Inl := d12 c5M 0 Try.f14
theorem O1 : b86 Try.prog 14 a07 := c0c (AE.ofI_ok (all_cons q8 c6) c6 c6 (all_cons ⟨a26, a0s⟩ c6) c6) mix Try.func14 0
noncomputable def c7s : AE := AE.ofI [] [] [] [(43, a5U)] [] [] []
noncomputable def a6c : Inl := d12 c7s 0 Try.f22
theorem a2I : b86 Try.prog 22 a6c := c0c (AE.ofI_ok c6 c6 c6 (all_cons ⟨a26, a0s⟩ c6) c6) mix Try.func22 0
noncomputable def c7r : AE := AE.ofI [(5, ty5), (23, ty23)] [] [] [] [] [] []
noncomputable def c00 : Inl := d12 c7r 0 Try.f28
theorem b8G : b86 Try.prog 28 c00 := c0c (AE.ofI_ok (all_cons Z1 (all_cons F8 c6)) c6 c6 c6 c6) mix Try.func28 0
theorem d3X : d3m Try.prog 20 := ⟨_, Try.underlying20⟩
theorem c7t : d3n Try.prog 26 79 := ⟨_, Try.t26, Try.underlying79, by kernel_rfl, by kernel_rfl⟩
noncomputable def cat_dsa_caught_E : AE := AE.ofA [(26, ty26)] [] [] [] [] [] [] [] [] [20] [(26, 79)] []
noncomputable def a4l : Cat := d7r cat_dsa_caught_E 0 Try.f12
theorem b5p : cat_dsa_caught_E.Ok Try.prog := AE.ofA_ok (all_cons c2e c6) c6 c6 c6 c6 c6 c6 (all_cons d3X c6) (all_cons c7t c6) c6
theorem a3T : d0Z Try.prog 12 a4l := d3C b5p mix Try.func12 0
end Go.Ax.TryP
set_option linter.unusedVariables false
namespace Go.Ax.TryP
open Go.Proofs
def rot (a n : Int) : Int := if n = 0 then a else ior .u64 (b0A .u64 a n) (b9c .u64 a (64 - n))
def x64 (a b : Int) : Int := b9d .u64 a b
def offs : List Int := [0, 1, 62, 28, 27, 36, 44, 6, 55, 20, 3, 10, 43, 25, 39, 41, 45, 15, 21, 8, 18, 2, 61, 56, 14]
def cons : List Int := [0x0000000000000001, 0x0000000000008082, 0x800000000000808a, 0x8000000080008000, 0x000000000000808b, 0x0000000080000001, 0x8000000080008081, 0x8000000000008009, 0x000000000000008a, 0x0000000000000088, 0x0000000080008009, 0x000000008000000a, 0x000000008000808b, 0x800000000000008b, 0x8000000000008089, 0x8000000000008003, 0x8000000000008002, 0x8000000000000080, 0x000000000000800a, 0x800000008000000a, 0x8000000080008081, 0x8000000000008080, 0x0000000080000001, 0x8000000080008008]
def at0 (a : List Int) (i : Nat) : Int := a.getD i 0
def cF (a : List Int) (x : Nat) : Int := x64 (x64 (x64 (x64 (at0 a x) (at0 a (x + 5))) (at0 a (x + 10))) (at0 a (x + 15))) (at0 a (x + 20))
def dF (a : List Int) (x : Nat) : Int := x64 (cF a ((x + 4) % 5)) (rot (cF a ((x + 1) % 5)) 1)
def tF (a : List Int) (i : Nat) : Int := rot (x64 (at0 a i) (dF a (i % 5))) (offs.getD i 0)
def d3Z (j : Nat) : Nat := 5 * (j % 5) + (3 * (j / 5) + j % 5) % 5
def to5 (i : Nat) : Nat := 5 * ((2 * (i % 5) + 3 * (i / 5)) % 5) + i / 5
def bF (a : List Int) (j : Nat) : Int := tF a (d3Z j)
def eF (b : Nat → Int) (i : Nat) : Int := x64 (b i) (b8H .u64 (b9d .u64 18446744073709551615 (b (i / 5 * 5 + (i + 1) % 5))) (b (i / 5 * 5 + (i + 2) % 5)))
def d36 (a : List Int) : List Int := (List.range 25).map (eF (bF a))
def c9s (a : List Int) (c : Int) : List Int := (d36 a).set 0 (x64 (at0 (d36 a) 0) c)
def d0u : Nat → List Int → List Int
 | 0, a => a
 | n + 1, a => c9s (d0u n a) (cons.getD n 0)
def c2N (a : List Int) : List Int := d0u 24 a
noncomputable def w6 : Int × Int × Unit → Option Int := a0l (ks := [.int .u64, .int .i64]) (rs := [.int .u64]) (fun x => 0 ≤ x.2.1 ∧ x.2.1 < 64) fun x => rot x.1 x.2.1
noncomputable def a1Z : Unit → Option (List Int) := a0l (ks := []) (rs := [.xs (.int .i64) 25]) (fun _ => True) fun _ => offs
noncomputable def a0e : Unit → Option (List Int) := a0l (ks := []) (rs := [.xs (.int .u64) 24]) (fun _ => True) fun _ => cons
noncomputable def a4m : List Int × List Int × Unit → Option (List Int) := a0l (ks := [.xs (.int .u64) 25, .rp (.xs (.int .i64) 25)]) (rs := [.xs (.int .u64) 25]) (fun x => x.2.1 = offs) fun x => d36 x.1
noncomputable def H0 : List Int × Unit → Option (List Int) := a0l (ks := [.xs (.int .u64) 25]) (rs := [.xs (.int .u64) 25]) (fun _ => True) fun x => c2N x.1
end Go.Ax.TryP
set_option linter.unusedVariables false
namespace Go.Ax.TryP
open Go.Proofs
noncomputable def p_bits_RotateLeft64_E : AE := AE.of [(3, ty3), (73, ty73)] []
noncomputable def b1y : Hints := [(3000000, [4])]
noncomputable def b1z : Code := (Try.f79).body.getD .skip
abbrev B9 : List Kd := [.int .u64, .int .i64]
abbrev a0c : List Kd := [.int .u64]
noncomputable def U9 (N : Nat) (x : Int × Int × Unit) : Option (Int) :=
 if (b8H IntKind.u64 (IntKind.u64.wrap x.2.1) (63:Int)) < 0 then none else (
 if (IntKind.u64.wrap ((64:Int) - (b8H IntKind.u64 (IntKind.u64.wrap x.2.1) (63:Int)))) < 0 then none else (
 some (ior IntKind.u64 (b0A IntKind.u64 x.1 (b8H IntKind.u64 (IntKind.u64.wrap x.2.1) (63:Int))) (b9c IntKind.u64 x.1 (IntKind.u64.wrap ((64:Int) - (b8H IntKind.u64 (IntKind.u64.wrap x.2.1) (63:Int))))))))
theorem a9u : p_bits_RotateLeft64_E.Ok Try.prog := AE.of_ok (all_cons a5x (all_cons d6U c6)) c6
theorem b0B (hE : p_bits_RotateLeft64_E.Ok Try.prog) {g : Ds B9 → Option (Rs [.int .u64])} (hg : ∀ x r, g x = some r → ∃ N, U9 N x = some r) : c8 Try.prog 79 ⟨B9, [.int .u64], g⟩ :=
 i5 (E := p_bits_RotateLeft64_E) (H := b1y) (L := fun N => LT.nil) (c := b1z) (ks := B9) (rs := a0c) (F := U9) hE mix Try.func79 (by kernel_rfl) (fun N => OkAll.nil) (fun _ _ => by kernel_rfl) hg
noncomputable def p_keccak_offsets_E : AE := AE.of [(3, ty3), (120, ty120)] []
noncomputable def b6v : Hints := [(3000000, [0])]
noncomputable def b6w : Code := (Try.f76).body.getD .skip
abbrev a2B : List Kd := []
abbrev M0 : List Kd := [.xs b64 25]
noncomputable def a5n (N : Nat) (x : Unit) : Option (List Int) :=
 some (List.set (List.set (List.set (List.set (List.set (List.set (List.set (List.set (List.set (List.set (List.set (List.set (List.set (List.set (List.set (List.set (List.set (List.set (List.set (List.set (List.set (List.set (List.set (List.set (List.set (List.replicate 25 0) 0 (0:Int)) 1 (1:Int)) 2 (62:Int)) 3 (28:Int)) 4 (27:Int)) 5 (36:Int)) 6 (44:Int)) 7 (6:Int)) 8 (55:Int)) 9 (20:Int)) 10 (3:Int)) 11 (10:Int)) 12 (43:Int)) 13 (25:Int)) 14 (39:Int)) 15 (41:Int)) 16 (45:Int)) 17 (15:Int)) 18 (21:Int)) 19 (8:Int)) 20 (18:Int)) 21 (2:Int)) 22 (61:Int)) 23 (56:Int)) 24 (14:Int))
theorem b3t : p_keccak_offsets_E.Ok Try.prog := AE.of_ok (all_cons a5x (all_cons c4Q c6)) c6
theorem b4W (hE : p_keccak_offsets_E.Ok Try.prog) {g : Ds [] → Option (Rs M0)} (hg : ∀ x r, g x = some r → ∃ N, a5n N x = some r) : c8 Try.prog 76 ⟨[], M0, g⟩ :=
 i5 (E := p_keccak_offsets_E) (H := b6v) (L := fun N => LT.nil) (c := b6w) (ks := a2B) (rs := M0) (F := a5n) hE mix Try.func76 (by kernel_rfl) (fun N => OkAll.nil) (fun _ _ => by kernel_rfl) hg
noncomputable def p_keccak_constants_E : AE := AE.of [(109, ty109), (122, ty122)] []
noncomputable def b3l : Hints := [(3000000, [0])]
noncomputable def b3m : Code := (Try.f77).body.getD .skip
abbrev a0U : List Kd := []
abbrev F7 : List Kd := [.xs (.int .u64) 24]
noncomputable def a3v (N : Nat) (x : Unit) : Option (List Int) :=
 some (List.set (List.set (List.set (List.set (List.set (List.set (List.set (List.set (List.set (List.set (List.set (List.set (List.set (List.set (List.set (List.set (List.set (List.set (List.set (List.set (List.set (List.set (List.set (List.set (List.replicate 24 0) 0 (1:Int)) 1 (32898:Int)) 2 (9223372036854808714:Int)) 3 (9223372039002292224:Int)) 4 (32907:Int)) 5 (2147483649:Int)) 6 (9223372039002292353:Int)) 7 (9223372036854808585:Int)) 8 (138:Int)) 9 (136:Int)) 10 (2147516425:Int)) 11 (2147483658:Int)) 12 (2147516555:Int)) 13 (9223372036854775947:Int)) 14 (9223372036854808713:Int)) 15 (9223372036854808579:Int)) 16 (9223372036854808578:Int)) 17 (9223372036854775936:Int)) 18 (32778:Int)) 19 (9223372039002259466:Int)) 20 (9223372039002292353:Int)) 21 (9223372036854808704:Int)) 22 (2147483649:Int)) 23 (9223372039002292232:Int))
theorem b0Y : p_keccak_constants_E.Ok Try.prog := AE.of_ok (all_cons b6Z (all_cons c9G c6)) c6
theorem b1V (hE : p_keccak_constants_E.Ok Try.prog) {g : Ds [] → Option (Rs F7)} (hg : ∀ x r, g x = some r → ∃ N, a3v N x = some r) : c8 Try.prog 77 ⟨[], F7, g⟩ :=
 i5 (E := p_keccak_constants_E) (H := b3l) (L := fun N => LT.nil) (c := b3m) (ks := a0U) (rs := F7) (F := a3v) hE mix Try.func77 (by kernel_rfl) (fun N => OkAll.nil) (fun _ _ => by kernel_rfl) hg
noncomputable abbrev a2j : Sig := ⟨[.int .u64, .int .i64], [.int .u64], w6⟩
noncomputable def p_keccak_mixed_E : AE := AE.of [(3, ty3), (109, ty109), (110, ty110), (120, ty120), (126, ty126)] [(79, a2j)]
noncomputable def Y9 : Hints := [(3, [1, 2, 4, 5, 6, 15]), (8, [1, 2, 4, 5, 6, 44]), (14, [1, 2, 4, 6, 9, 62]), (20, [2, 4, 9, 93]), (2000000, [1, 2, 4, 5, 6]), (2000001, [1, 2, 4, 5, 6, 15]), (2000002, [1, 2, 4, 6]), (2000003, [1, 2, 4, 5, 6, 44]), (2000004, [2, 4, 9]), (2000005, [1, 2, 4, 6, 9, 62]), (2000006, [2, 4]), (2000007, [2, 4, 9, 93]), (3000000, [4])]
noncomputable def w3 : Code := (Try.f78).body.getD .skip
noncomputable def b4U : Shape := mkS { tmps := V :: .sc (.ptr 0 0 false) :: .sc (.ptr 1 0 false) :: V :: .sc (.ptr 2 0 false) :: .sc (.ptr 3 0 false) :: .sc (.ptr 4 0 false) :: pv 8 (.sc (.int .i64) :: pv 107 []), mem := [.live [.xs b64 (some 25)] (.ro), .live [.xs (.int .u64) (some 25)] (.own), .live [.xs (.int .u64) (some 25)] (.own), .live [.xs (.int .u64) (some 5)] (.own), .live [.xs (.int .u64) (some 5)] (.own)] } [.int, .xs, .xs, .xs, .xs, .xs]
abbrev W0 : Type := Int × List Int × List Int × List Int × List Int × List Int × Unit
abbrev W1 : Type := List Int × List Int × List Int × List Int × List Int × Unit
noncomputable def L8 (N : Nat) (β : Type) (x : W0) (kn : W0 → Option β) (ke : W1 → Option β) : Option β :=
 if (x.1 < (5:Int)) then
  if 0 ≤ x.1 then (
  if x.1 < 25 then (
  if (x.1.toNat) < 25 then (
  if 0 ≤ (IntKind.i64.wrap (x.1 + (5:Int))) then (
  if (IntKind.i64.wrap (x.1 + (5:Int))) < 25 then (
  if ((IntKind.i64.wrap (x.1 + (5:Int))).toNat) < 25 then (
  if 0 ≤ (IntKind.i64.wrap (x.1 + (10:Int))) then (
  if (IntKind.i64.wrap (x.1 + (10:Int))) < 25 then (
  if ((IntKind.i64.wrap (x.1 + (10:Int))).toNat) < 25 then (
  if 0 ≤ (IntKind.i64.wrap (x.1 + (15:Int))) then (
  if (IntKind.i64.wrap (x.1 + (15:Int))) < 25 then (
  if ((IntKind.i64.wrap (x.1 + (15:Int))).toNat) < 25 then (
  if 0 ≤ (IntKind.i64.wrap (x.1 + (20:Int))) then (
  if (IntKind.i64.wrap (x.1 + (20:Int))) < 25 then (
  if ((IntKind.i64.wrap (x.1 + (20:Int))).toNat) < 25 then (
  if 0 ≤ x.1 then (
  if x.1 < 5 then (
  if (x.1.toNat) < 5 then (
  kn ((IntKind.i64.wrap (x.1 + (1:Int))), x.2.1, x.2.2.1, x.2.2.2.1, (List.set x.2.2.2.2.1 (x.1.toNat) (b9d IntKind.u64 (b9d IntKind.u64 (b9d IntKind.u64 (b9d IntKind.u64 (List.getD x.2.2.1 (x.1.toNat) 0) (List.getD x.2.2.1 ((IntKind.i64.wrap (x.1 + (5:Int))).toNat) 0)) (List.getD x.2.2.1 ((IntKind.i64.wrap (x.1 + (10:Int))).toNat) 0)) (List.getD x.2.2.1 ((IntKind.i64.wrap (x.1 + (15:Int))).toNat) 0)) (List.getD x.2.2.1 ((IntKind.i64.wrap (x.1 + (20:Int))).toNat) 0))), x.2.2.2.2.2.1, ())) else none) else none) else none) else none) else none) else none) else none) else none) else none) else none) else none) else none) else none) else none) else none) else none) else none) else none
 else
  ke (x.2.1, x.2.2.1, x.2.2.2.1, x.2.2.2.2.1, x.2.2.2.2.2.1, ())
noncomputable def b3p : Go' W1 := fun y K => K (.exit 0) (fSt { tmps := V :: .sc (.ptr 0 0 false) :: .sc (.ptr 1 0 false) :: V :: .sc (.ptr 2 0 false) :: .sc (.ptr 3 0 false) :: .sc (.ptr 4 0 false) :: pv 116 [], mem := [.live [.xs b64 (some 25)] (.ro), .live [.xs (.int .u64) (some 25)] (.own), .live [.xs (.int .u64) (some 25)] (.own), .live [.xs (.int .u64) (some 5)] (.own), .live [.xs (.int .u64) (some 5)] (.own)] } [.xs, .xs, .xs, .xs, .xs] y)
noncomputable def a6s (N : Nat) : LT := upd (LT.nil) 3 (o6 b4U N (L8 N) b3p)
theorem b3q (N : Nat) : OkAll p_keccak_mixed_E Y9 N (a6s N) (w9 w3) :=
 d6 (c := d7 3 w3) (OkAll.nil) (by kernel_rfl) (fun x => by kernel_rfl) (fun β x kn ke => by kernel_rfl)
noncomputable def b4V : Shape := mkS { tmps := V :: .sc (.ptr 0 0 false) :: .sc (.ptr 1 0 false) :: V :: .sc (.ptr 2 0 false) :: .sc (.ptr 3 0 false) :: .sc (.ptr 4 0 false) :: pv 37 (.sc (.int .i64) :: pv 78 []), mem := [.live [.xs b64 (some 25)] (.ro), .live [.xs (.int .u64) (some 25)] (.own), .live [.xs (.int .u64) (some 25)] (.own), .live [.xs (.int .u64) (some 5)] (.own), .live [.xs (.int .u64) (some 5)] (.own)] } [.int, .xs, .xs, .xs, .xs, .xs]
abbrev W2 : Type := List Int × List Int × List Int × List Int × Unit
noncomputable def L9 (N : Nat) (β : Type) (x : W0) (kn : W0 → Option β) (ke : W2 → Option β) : Option β :=
 if (x.1 < (5:Int)) then
  if 0 ≤ (Int.tmod (IntKind.i64.wrap (x.1 + (4:Int))) (5:Int)) then (
  if (Int.tmod (IntKind.i64.wrap (x.1 + (4:Int))) (5:Int)) < 5 then (
  if ((Int.tmod (IntKind.i64.wrap (x.1 + (4:Int))) (5:Int)).toNat) < 5 then (
  if 0 ≤ (Int.tmod (IntKind.i64.wrap (x.1 + (1:Int))) (5:Int)) then (
  if (Int.tmod (IntKind.i64.wrap (x.1 + (1:Int))) (5:Int)) < 5 then (
  if ((Int.tmod (IntKind.i64.wrap (x.1 + (1:Int))) (5:Int)).toNat) < 5 then (
  (w6 ((List.getD x.2.2.2.2.1 ((Int.tmod (IntKind.i64.wrap (x.1 + (1:Int))) (5:Int)).toNat) 0), (1:Int), ())).bind fun r2 => (
  if 0 ≤ x.1 then (
  if x.1 < 5 then (
  if (x.1.toNat) < 5 then (
  kn ((IntKind.i64.wrap (x.1 + (1:Int))), x.2.1, x.2.2.1, x.2.2.2.1, x.2.2.2.2.1, (List.set x.2.2.2.2.2.1 (x.1.toNat) (b9d IntKind.u64 (List.getD x.2.2.2.2.1 ((Int.tmod (IntKind.i64.wrap (x.1 + (4:Int))) (5:Int)).toNat) 0) r2)), ())) else none) else none) else none)) else none) else none) else none) else none) else none) else none
 else
  ke (x.2.1, x.2.2.1, x.2.2.2.1, x.2.2.2.2.2.1, ())
noncomputable def b3r : Go' W2 := fun y K => K (.exit 2) (fSt { tmps := V :: .sc (.ptr 0 0 false) :: .sc (.ptr 1 0 false) :: V :: .sc (.ptr 2 0 false) :: V :: .sc (.ptr 3 0 false) :: pv 116 [], mem := [.live [.xs b64 (some 25)] (.ro), .live [.xs (.int .u64) (some 25)] (.own), .live [.xs (.int .u64) (some 25)] (.own), .live [.xs (.int .u64) (some 5)] (.own)] } [.xs, .xs, .xs, .xs] y)
noncomputable def a6t (N : Nat) : LT := upd (a6s N) 8 (o6 b4V N (L9 N) b3r)
theorem b3s (N : Nat) : OkAll p_keccak_mixed_E Y9 N (a6t N) (w9 w3) :=
 d6 (c := d7 8 w3) (b3q N) (by kernel_rfl) (fun x => by kernel_rfl) (fun β x kn ke => by kernel_rfl)
noncomputable def b3n : Shape := mkS { tmps := V :: .sc (.ptr 0 0 false) :: .sc (.ptr 1 0 false) :: V :: .sc (.ptr 2 0 false) :: V :: .sc (.ptr 3 0 false) :: V :: V :: .sc (.ptr 4 0 false) :: pv 52 (.sc (.int .i64) :: pv 60 []), mem := [.live [.xs b64 (some 25)] (.ro), .live [.xs (.int .u64) (some 25)] (.own), .live [.xs (.int .u64) (some 25)] (.own), .live [.xs (.int .u64) (some 5)] (.own), .live [.xs (.int .u64) (some 25)] (.own)] } [.int, .xs, .xs, .xs, .xs, .xs]
abbrev W3 : Type := List Int × List Int × List Int × Unit
noncomputable def B2 (N : Nat) (β : Type) (x : W0) (kn : W0 → Option β) (ke : W3 → Option β) : Option β :=
 if (x.1 < (25:Int)) then
  if 0 ≤ x.1 then (
  if x.1 < 25 then (
  if (x.1.toNat) < 25 then (
  if 0 ≤ (Int.tmod x.1 (5:Int)) then (
  if (Int.tmod x.1 (5:Int)) < 5 then (
  if ((Int.tmod x.1 (5:Int)).toNat) < 5 then (
  if 0 ≤ x.1 then (
  if x.1 < 25 then (
  if (x.1.toNat) < 25 then (
  (w6 ((b9d IntKind.u64 (List.getD x.2.2.1 (x.1.toNat) 0) (List.getD x.2.2.2.2.1 ((Int.tmod x.1 (5:Int)).toNat) 0)), (List.getD x.2.1 (x.1.toNat) 0), ())).bind fun r4 => (
  if 0 ≤ (IntKind.i64.wrap ((IntKind.i64.wrap ((5:Int) * (Int.tmod (IntKind.i64.wrap ((IntKind.i64.wrap ((2:Int) * (Int.tmod x.1 (5:Int)))) + (IntKind.i64.wrap ((3:Int) * (IntKind.i64.wrap (Int.tdiv x.1 (5:Int))))))) (5:Int)))) + (IntKind.i64.wrap (Int.tdiv x.1 (5:Int))))) then (
  if (IntKind.i64.wrap ((IntKind.i64.wrap ((5:Int) * (Int.tmod (IntKind.i64.wrap ((IntKind.i64.wrap ((2:Int) * (Int.tmod x.1 (5:Int)))) + (IntKind.i64.wrap ((3:Int) * (IntKind.i64.wrap (Int.tdiv x.1 (5:Int))))))) (5:Int)))) + (IntKind.i64.wrap (Int.tdiv x.1 (5:Int))))) < 25 then (
  if ((IntKind.i64.wrap ((IntKind.i64.wrap ((5:Int) * (Int.tmod (IntKind.i64.wrap ((IntKind.i64.wrap ((2:Int) * (Int.tmod x.1 (5:Int)))) + (IntKind.i64.wrap ((3:Int) * (IntKind.i64.wrap (Int.tdiv x.1 (5:Int))))))) (5:Int)))) + (IntKind.i64.wrap (Int.tdiv x.1 (5:Int))))).toNat) < 25 then (
  kn ((IntKind.i64.wrap (x.1 + (1:Int))), x.2.1, x.2.2.1, x.2.2.2.1, x.2.2.2.2.1, (List.set x.2.2.2.2.2.1 ((IntKind.i64.wrap ((IntKind.i64.wrap ((5:Int) * (Int.tmod (IntKind.i64.wrap ((IntKind.i64.wrap ((2:Int) * (Int.tmod x.1 (5:Int)))) + (IntKind.i64.wrap ((3:Int) * (IntKind.i64.wrap (Int.tdiv x.1 (5:Int))))))) (5:Int)))) + (IntKind.i64.wrap (Int.tdiv x.1 (5:Int))))).toNat) r4), ())) else none) else none) else none)) else none) else none) else none) else none) else none) else none) else none) else none) else none
 else
  ke (x.2.2.1, x.2.2.2.1, x.2.2.2.2.2.1, ())
noncomputable def b1W : Go' W3 := fun y K => K (.exit 4) (fSt { tmps := V :: V :: .sc (.ptr 0 0 false) :: V :: .sc (.ptr 1 0 false) :: pv 4 (.sc (.ptr 2 0 false) :: pv 113 []), mem := [.live [.xs (.int .u64) (some 25)] (.own), .live [.xs (.int .u64) (some 25)] (.own), .live [.xs (.int .u64) (some 25)] (.own)] } [.xs, .xs, .xs] y)
noncomputable def a5u (N : Nat) : LT := upd (a6t N) 14 (o6 b3n N (B2 N) b1W)
theorem b1X (N : Nat) : OkAll p_keccak_mixed_E Y9 N (a5u N) (w9 w3) :=
 d6 (c := d7 14 w3) (b3s N) (by kernel_rfl) (fun x => by kernel_rfl) (fun β x kn ke => by kernel_rfl)
noncomputable def b3o : Shape := mkS { tmps := V :: V :: .sc (.ptr 0 0 false) :: V :: .sc (.ptr 1 0 false) :: pv 4 (.sc (.ptr 2 0 false) :: pv 83 (.sc (.int .i64) :: pv 29 [])), mem := [.live [.xs (.int .u64) (some 25)] (.own), .live [.xs (.int .u64) (some 25)] (.own), .live [.xs (.int .u64) (some 25)] (.own)] } [.int, .xs, .xs, .xs]
abbrev W4 : Type := Int × List Int × List Int × List Int × Unit
abbrev W5 : Type := List Int × List Int × Unit
noncomputable def B3 (N : Nat) (β : Type) (x : W4) (kn : W4 → Option β) (ke : W5 → Option β) : Option β :=
 if (x.1 < (25:Int)) then
  if 0 ≤ x.1 then (
  if x.1 < 25 then (
  if (x.1.toNat) < 25 then (
  if 0 ≤ (IntKind.i64.wrap ((IntKind.i64.wrap ((IntKind.i64.wrap (Int.tdiv x.1 (5:Int))) * (5:Int))) + (Int.tmod (IntKind.i64.wrap (x.1 + (1:Int))) (5:Int)))) then (
  if (IntKind.i64.wrap ((IntKind.i64.wrap ((IntKind.i64.wrap (Int.tdiv x.1 (5:Int))) * (5:Int))) + (Int.tmod (IntKind.i64.wrap (x.1 + (1:Int))) (5:Int)))) < 25 then (
  if ((IntKind.i64.wrap ((IntKind.i64.wrap ((IntKind.i64.wrap (Int.tdiv x.1 (5:Int))) * (5:Int))) + (Int.tmod (IntKind.i64.wrap (x.1 + (1:Int))) (5:Int)))).toNat) < 25 then (
  if 0 ≤ (IntKind.i64.wrap ((IntKind.i64.wrap ((IntKind.i64.wrap (Int.tdiv x.1 (5:Int))) * (5:Int))) + (Int.tmod (IntKind.i64.wrap (x.1 + (2:Int))) (5:Int)))) then (
  if (IntKind.i64.wrap ((IntKind.i64.wrap ((IntKind.i64.wrap (Int.tdiv x.1 (5:Int))) * (5:Int))) + (Int.tmod (IntKind.i64.wrap (x.1 + (2:Int))) (5:Int)))) < 25 then (
  if ((IntKind.i64.wrap ((IntKind.i64.wrap ((IntKind.i64.wrap (Int.tdiv x.1 (5:Int))) * (5:Int))) + (Int.tmod (IntKind.i64.wrap (x.1 + (2:Int))) (5:Int)))).toNat) < 25 then (
  if 0 ≤ x.1 then (
  if x.1 < 25 then (
  if (x.1.toNat) < 25 then (
  kn ((IntKind.i64.wrap (x.1 + (1:Int))), (List.set x.2.1 (x.1.toNat) (b9d IntKind.u64 (List.getD x.2.2.2.1 (x.1.toNat) 0) (b8H IntKind.u64 (b9d IntKind.u64 (if IntKind.u64.signed then -1 else IntKind.u64.max) (List.getD x.2.2.2.1 ((IntKind.i64.wrap ((IntKind.i64.wrap ((IntKind.i64.wrap (Int.tdiv x.1 (5:Int))) * (5:Int))) + (Int.tmod (IntKind.i64.wrap (x.1 + (1:Int))) (5:Int)))).toNat) 0)) (List.getD x.2.2.2.1 ((IntKind.i64.wrap ((IntKind.i64.wrap ((IntKind.i64.wrap (Int.tdiv x.1 (5:Int))) * (5:Int))) + (Int.tmod (IntKind.i64.wrap (x.1 + (2:Int))) (5:Int)))).toNat) 0)))), x.2.2.1, x.2.2.2.1, ())) else none) else none) else none) else none) else none) else none) else none) else none) else none) else none) else none) else none
 else
  ke (x.2.1, x.2.2.1, ())
noncomputable def b1Y : Go' W5 := fun y K => K (.exit 6) (fSt { tmps := V :: V :: .sc (.ptr 0 0 false) :: V :: .sc (.ptr 1 0 false) :: pv 118 [], mem := [.live [.xs (.int .u64) (some 25)] (.own), .live [.xs (.int .u64) (some 25)] (.own)] } [.xs, .xs] y)
noncomputable def a5v (N : Nat) : LT := upd (a5u N) 20 (o6 b3o N (B3 N) b1Y)
theorem b1Z (N : Nat) : OkAll p_keccak_mixed_E Y9 N (a5v N) (w9 w3) :=
 d6 (c := d7 20 w3) (b1X N) (by kernel_rfl) (fun x => by kernel_rfl) (fun β x kn ke => by kernel_rfl)
abbrev S9 : List Kd := [.xs (.int .u64) 25, .rp (.xs b64 25)]
abbrev T0 : List Kd := [.xs (.int .u64) 25]
noncomputable def a4v (N : Nat) (x : List Int × List Int × Unit) : Option (List Int) :=
 m7 (L8 N) N ((0:Int), x.2.1, x.1, (List.replicate 25 0), (List.replicate 5 0), (List.replicate 5 0), ()) fun y1 => (
 m7 (L9 N) N ((0:Int), y1.1, y1.2.1, y1.2.2.1, y1.2.2.2.1, y1.2.2.2.2.1, ()) fun y3 => (
 m7 (B2 N) N ((0:Int), y3.1, y3.2.1, y3.2.2.1, y3.2.2.2.1, (List.replicate 25 0), ()) fun y5 => (
 m7 (B3 N) N ((0:Int), y5.1, y5.2.1, y5.2.2.1, ()) fun y6 => (
 some y6.1))))
theorem b6u (e0 : c8 Try.prog 79 a2j) : p_keccak_mixed_E.Ok Try.prog := AE.of_ok (all_cons a5x (all_cons b6Z (all_cons b2H (all_cons c4Q (all_cons d4B c6))))) (all_cons ⟨e0, a8g⟩ c6)
theorem b8c (hE : p_keccak_mixed_E.Ok Try.prog) {g : Ds S9 → Option (Rs T0)} (hg : ∀ x r, g x = some r → ∃ N, a4v N x = some r) : c8 Try.prog 78 ⟨S9, T0, g⟩ :=
 i5 (E := p_keccak_mixed_E) (H := Y9) (L := fun N => a5v N) (c := w3) (ks := S9) (rs := T0) (F := a4v) hE mix Try.func78 (by kernel_rfl) (fun N => b1Z N) (fun _ _ => by kernel_rfl) hg
noncomputable abbrev a46 : Sig := ⟨[], [.xs b64 25], a1Z⟩
noncomputable abbrev a2U : Sig := ⟨[], [.xs (.int .u64) 24], a0e⟩
noncomputable abbrev a7z : Sig := ⟨[.xs (.int .u64) 25, .rp (.xs b64 25)], [.xs (.int .u64) 25], a4m⟩
noncomputable def p_keccak_Permute_E : AE := AE.of [(109, ty109), (110, ty110), (120, ty120), (122, ty122)] [(76, a46), (77, a2U), (78, a7z)]
noncomputable def a7o : Hints := [(3, [1, 2, 3, 7, 8]), (2000000, [1, 2]), (2000001, [1, 2, 3, 7, 8]), (3000000, [2])]
noncomputable def a3u : Code := (Try.f74).body.getD .skip
noncomputable def b1Q : Shape := mkS { tmps := V :: .sc (.ptr 0 0 false) :: .sc (.ptr 1 0 false) :: .sc (.ptr 2 0 false) :: pv 3 (.agg [.xs (.int .u64) (some 24)] :: .sc (.int .i64) :: pv 11 []), mem := [.live [.xs (.int .u64) (some 25)] (.own), .live [.xs (.int .u64) (some 25)] (.own), .live [.xs b64 (some 25)] (.own)] } [.xs, .int, .xs, .xs, .xs]
abbrev W6 : Type := List Int × Int × List Int × List Int × List Int × Unit
noncomputable def F6 (N : Nat) (β : Type) (x : W6) (kn : W6 → Option β) (ke : W5 → Option β) : Option β :=
 if (x.2.1 < (24:Int)) then
  if 0 ≤ x.2.1 then (
  if x.2.1 < 24 then (
  if (x.2.1.toNat) < 24 then (
  (a4m (x.2.2.1, x.2.2.2.2.1, ())).bind fun r3 => (
  kn (x.1, (IntKind.i64.wrap (x.2.1 + (1:Int))), (List.set r3 0 (b9d IntKind.u64 (List.getD r3 0 0) (List.getD x.1 (x.2.1.toNat) 0))), x.2.2.2.1, x.2.2.2.2.1, ()))) else none) else none) else none
 else
  ke (x.2.2.1, x.2.2.2.1, ())
noncomputable def b0W : Go' W5 := fun y K => K (.exit 0) (fSt { tmps := V :: .sc (.ptr 0 0 false) :: .sc (.ptr 1 0 false) :: pv 17 [], mem := [.live [.xs (.int .u64) (some 25)] (.own), .live [.xs (.int .u64) (some 25)] (.own)] } [.xs, .xs] y)
noncomputable def a4Z (N : Nat) : LT := upd (LT.nil) 3 (o6 b1Q N (F6 N) b0W)
theorem b0X (N : Nat) : OkAll p_keccak_Permute_E a7o N (a4Z N) (w9 a3u) :=
 d6 (c := d7 3 a3u) (OkAll.nil) (by kernel_rfl) (fun x => by kernel_rfl) (fun β x kn ke => by kernel_rfl)
abbrev w8 : List Kd := [.xs (.int .u64) 25]
abbrev a2A : List Kd := [.xs (.int .u64) 25]
noncomputable def a2e (N : Nat) (x : List Int × Unit) : Option (List Int) :=
 (a1Z (())).bind fun r1 => (
 (a0e (())).bind fun r2 => (
 m7 (F6 N) N (r2, (0:Int), x.1, (List.replicate 25 0), r1, ()) fun y4 => (
 some y4.1)))
theorem b3g (e0 : c8 Try.prog 76 a46) (e1 : c8 Try.prog 77 a2U) (e2 : c8 Try.prog 78 a7z) : p_keccak_Permute_E.Ok Try.prog := AE.of_ok (all_cons b6Z (all_cons b2H (all_cons c4Q (all_cons c9G c6)))) (all_cons ⟨e0, b1l⟩ (all_cons ⟨e1, a9j⟩ (all_cons ⟨e2, b33⟩ c6)))
theorem b4L (hE : p_keccak_Permute_E.Ok Try.prog) {g : Ds w8 → Option (Rs w8)} (hg : ∀ x r, g x = some r → ∃ N, a2e N x = some r) : c8 Try.prog 74 ⟨w8, w8, g⟩ :=
 i5 (E := p_keccak_Permute_E) (H := a7o) (L := fun N => a4Z N) (c := a3u) (ks := w8) (rs := a2A) (F := a2e) hE mix Try.func74 (by kernel_rfl) (fun N => b0X N) (fun _ _ => by kernel_rfl) hg
end Go.Ax.TryP
set_option linter.unusedVariables false
namespace Go.Ax.TryP
open Go.Proofs
abbrev z25 : List Int := List.replicate 25 0
abbrev z5 : List Int := List.replicate 5 0
theorem d9i (x : Int) : 0 ≤ IntKind.u64.wrap x ∧ IntKind.u64.wrap x ≤ 18446744073709551615 := by
 simp [IntKind.wrap, IntKind.signed, IntKind.bits]; omega
theorem d3c (a b : Int) : 0 ≤ x64 a b ∧ x64 a b ≤ 18446744073709551615 := d9i _
theorem d9D (a : List Int) (x : Nat) : 0 ≤ cF a x ∧ cF a x ≤ 18446744073709551615 := d3c _ _
theorem d8x {a n : Int} : a42 [.int .u64, .int .i64] (a, n, ()) ↔ (0 ≤ a ∧ a ≤ 18446744073709551615) ∧ (-9223372036854775808 ≤ n ∧ n ≤ 9223372036854775807) := by
 have h1 : Kd.wf (.int .u64) a ↔ _ := b5I
 have h2 : Kd.wf (.int .i64) n ↔ _ := u2
 simp only [a42, and_true, h1, h2]
theorem d4O {a n : Int} (h : 0 ≤ a ∧ a ≤ 18446744073709551615) (hn : 0 ≤ n ∧ n < 64) : w6 (a, n, ()) = some (rot a n) :=
 d8 (ks := B9) (rs := a0c) (x := (a, n, ())) (d8x.2 ⟨h, by omega⟩) hn
theorem m3 (N : Nat) {β : Type} (a tn : List Int) (kn : _ → Option β) (k : _ → Option β) : ∀ i : Nat, i < 5 → L8 N β ((i : Int), tn, a, z25, part (cF a) i z5, z5, ()) kn k = kn (((i + 1 : Nat) : Int), tn, a, z25, part (cF a) (i + 1) z5, z5, ())
 | 0, _ => by kernel_rfl
 | 1, _ => by kernel_rfl
 | 2, _ => by kernel_rfl
 | 3, _ => by kernel_rfl
 | 4, _ => by kernel_rfl
 | n + 5, h => absurd h (by omega)
theorem m8 (N : Nat) {β : Type} (a tn : List Int) (kn : _ → Option β) (k : _ → Option β) : ∀ i : Nat, i < 5 → L9 N β ((i : Int), tn, a, z25, (List.range 5).map (cF a), part (dF a) i z5, ()) kn k
  = (w6 (cF a ((i + 1) % 5), 1, ())).bind fun r => kn (((i + 1 : Nat) : Int), tn, a, z25, (List.range 5).map (cF a), (part (dF a) i z5).set i (x64 (cF a ((i + 4) % 5)) r), ())
 | 0, _ => by kernel_rfl
 | 1, _ => by kernel_rfl
 | 2, _ => by kernel_rfl
 | 3, _ => by kernel_rfl
 | 4, _ => by kernel_rfl
 | n + 5, h => absurd h (by omega)
theorem m8s (a : List Int) : ∀ i : Nat, i < 5 → (part (dF a) i z5).set i (x64 (cF a ((i + 4) % 5)) (rot (cF a ((i + 1) % 5)) 1)) = part (dF a) (i + 1) z5
 | 0, _ => by kernel_rfl
 | 1, _ => by kernel_rfl
 | 2, _ => by kernel_rfl
 | 3, _ => by kernel_rfl
 | 4, _ => by kernel_rfl
 | n + 5, h => absurd h (by omega)
def bAt (a : List Int) (i : Nat) : List Int := (List.range 25).map fun j => if d3Z j < i then bF a j else 0
theorem m14 (N : Nat) {β : Type} (a b : List Int) (kn : _ → Option β) (k : _ → Option β) : ∀ i : Nat, i < 25 → B2 N β ((i : Int), offs, a, z25, (List.range 5).map (dF a), b, ()) kn k
  = (w6 (x64 (at0 a i) (dF a (i % 5)), offs.getD i 0, ())).bind fun r => kn (((i + 1 : Nat) : Int), offs, a, z25, (List.range 5).map (dF a), b.set (to5 i) r, ())
 | 0, _ => by kernel_rfl
 | 1, _ => by kernel_rfl
 | 2, _ => by kernel_rfl
 | 3, _ => by kernel_rfl
 | 4, _ => by kernel_rfl
 | 5, _ => by kernel_rfl
 | 6, _ => by kernel_rfl
 | 7, _ => by kernel_rfl
 | 8, _ => by kernel_rfl
 | 9, _ => by kernel_rfl
 | 10, _ => by kernel_rfl
 | 11, _ => by kernel_rfl
 | 12, _ => by kernel_rfl
 | 13, _ => by kernel_rfl
 | 14, _ => by kernel_rfl
 | 15, _ => by kernel_rfl
 | 16, _ => by kernel_rfl
 | 17, _ => by kernel_rfl
 | 18, _ => by kernel_rfl
 | 19, _ => by kernel_rfl
 | 20, _ => by kernel_rfl
 | 21, _ => by kernel_rfl
 | 22, _ => by kernel_rfl
 | 23, _ => by kernel_rfl
 | 24, _ => by kernel_rfl
 | n + 25, h => absurd h (by omega)
theorem d6G {f g : Nat → Int} {n k : Nat} {v : Int} (h : ∀ j, j < n → g j = if j = k then v else f j) : ((List.range n).map f).set k v = (List.range n).map g := by
 refine rows.ext (n := n) (by simp) (by simp) fun j hj => ?_
 rw [Q2 hj, h j hj]
 by_cases e : j = k
 ·subst e; rw [if_pos rfl, a2t (by simpa using hj)]
 ·rw [if_neg e, getD_set_ne (fun h => e h.symm), Q2 hj]
theorem d5k : ∀ i : Nat, i < 25 → ∀ j : Nat, j < 25 → (j = to5 i ↔ d3Z j = i) := by decide
theorem d9J (a : List Int) (i : Nat) (hi : i < 25) : (bAt a i).set (to5 i) (rot (x64 (at0 a i) (dF a (i % 5))) (offs.getD i 0)) = bAt a (i + 1) := by
 refine d6G fun j hj => ?_
 by_cases e : j = to5 i
 ·rw [if_pos e]
  have e2 := (d5k i hi j hj).1 e
  rw [if_pos (by omega)]
  unfold bF tF
  rw [e2]
 ·rw [if_neg e]
  have e2 : d3Z j ≠ i := fun h => e ((d5k i hi j hj).2 h)
  by_cases h : d3Z j < i
  ·rw [if_pos h, if_pos (by omega)]
  ·rw [if_neg h, if_neg (by omega)]
theorem d7W : ∀ i : Nat, i < 25 → 0 ≤ offs.getD i 0 ∧ offs.getD i 0 < 64 := by decide
theorem m20 (N : Nat) {β : Type} (a c : List Int) (kn : _ → Option β) (k : _ → Option β) : ∀ i : Nat, i < 25 → B3 N β ((i : Int), c, z25, (List.range 25).map (bF a), ()) kn k
  = kn (((i + 1 : Nat) : Int), c.set i (eF (bF a) i), z25, (List.range 25).map (bF a), ())
 | 0, _ => by kernel_rfl
 | 1, _ => by kernel_rfl
 | 2, _ => by kernel_rfl
 | 3, _ => by kernel_rfl
 | 4, _ => by kernel_rfl
 | 5, _ => by kernel_rfl
 | 6, _ => by kernel_rfl
 | 7, _ => by kernel_rfl
 | 8, _ => by kernel_rfl
 | 9, _ => by kernel_rfl
 | 10, _ => by kernel_rfl
 | 11, _ => by kernel_rfl
 | 12, _ => by kernel_rfl
 | 13, _ => by kernel_rfl
 | 14, _ => by kernel_rfl
 | 15, _ => by kernel_rfl
 | 16, _ => by kernel_rfl
 | 17, _ => by kernel_rfl
 | 18, _ => by kernel_rfl
 | 19, _ => by kernel_rfl
 | 20, _ => by kernel_rfl
 | 21, _ => by kernel_rfl
 | 22, _ => by kernel_rfl
 | 23, _ => by kernel_rfl
 | 24, _ => by kernel_rfl
 | n + 25, h => absurd h (by omega)
def u64s (n : Nat) (a : List Int) : Prop := rows 0 18446744073709551615 n a
theorem c4U {n : Nat} {a : List Int} : Kd.wf (.xs (.int .u64) n) a ↔ u64s n a := by simp [Kd.wf, u64s, rows, b5I]
theorem u64s.at {n : Nat} {a : List Int} (h : u64s n a) (i : Nat) : 0 ≤ at0 a i ∧ at0 a i ≤ 18446744073709551615 := rows.at h (by omega) i
theorem d9E (b : Nat → Int) (i : Nat) : 0 ≤ eF b i ∧ eF b i ≤ 18446744073709551615 := d3c _ _
theorem d7U (a : List Int) : u64s 25 (d36 a) := rows.range fun i _ => d9E _ i
theorem d4l (a : List Int) (c : Int) : u64s 25 (c9s a c) := rows.set (d7U a) (d3c _ _)
theorem d2z {a : List Int} (h : u64s 25 a) : ∀ n : Nat, u64s 25 (d0u n a)
 | 0 => h
 | n + 1 => d4l _ _
theorem c7L {a : List Int} (h : u64s 25 a) : u64s 25 (c2N a) := d2z h 24
theorem b9V : ∀ x r, a1Z x = some r → ∃ N, a5n N x = some r :=
 d9 (ks := a2B) (rs := M0) fun x _ _ => ⟨0, by kernel_rfl⟩
theorem b6L : ∀ x r, a0e x = some r → ∃ N, a3v N x = some r :=
 d9 (ks := a0U) (rs := F7) fun x _ _ => ⟨0, by kernel_rfl⟩
theorem c9P : a1Z () = some offs := d8 (ks := a2B) (rs := M0) (x := ()) trivial trivial
theorem c5h : a0e () = some cons := d8 (ks := a0U) (rs := F7) (x := ()) trivial trivial
theorem b42 : ∀ x r, w6 x = some r → ∃ N, U9 N x = some r := by
 refine d9 (ks := B9) (rs := a0c) fun x hw hq => ⟨0, ?_⟩
 obtain ⟨(a : Int), (n : Int), u⟩ := x
 have hq : 0 ≤ n ∧ n < 64 := hq
 obtain ⟨ha, _⟩ := d8x.1 hw
 obtain ⟨m, rfl⟩ : ∃ m : Nat, n = m := ⟨n.toNat, by omega⟩
 have e : b8H IntKind.u64 (m : Int) 63 = m := by
  rw [show (63 : Int) = ((63 : Nat) : Int) from rfl, b5z rfl (by simp [IntKind.bits]; omega) (by decide)]
  rw [show (63 : Nat) = 2 ^ 6 - 1 from rfl, Nat.and_two_pow_sub_one_eq_mod, Nat.mod_eq_of_lt (by omega)]
 unfold U9 rot
 dsimp only
 rw [c4V (x := (m : Int)) (by omega) (by omega), e, c4V (x := 64 - (m : Int)) (by omega) (by omega), if_neg (by omega), if_neg (by omega)]
 split
 ·rename_i h0
  have h0 : m = 0 := by omega
  subst h0
  obtain ⟨k, rfl⟩ : ∃ k : Nat, a = k := ⟨a.toNat, by omega⟩
  have h1 : b0A IntKind.u64 (k : Int) ((0 : Nat) : Int) = k := by rw [c39 rfl (by decide) (by simp [IntKind.bits]; omega)]; simp
  have h2 : b9c IntKind.u64 (k : Int) (64 - ((0 : Nat) : Int)) = ((0 : Nat) : Int) := by
   rw [show (64 - ((0 : Nat) : Int)) = ((64 : Nat) : Int) from rfl, a9o (by decide)]
   rw [Nat.div_eq_of_lt (by omega)]
  rw [h1, h2, c37 rfl (by simp [IntKind.bits]; omega) (by decide)]
  simp
 ·rfl
theorem l3_all {a tn : List Int} {β : Type} {k : _ → Option β} : m7 (L8 26) 26 ((0 : Int), tn, a, z25, z5, z5, ()) k = k (tn, a, z25, (List.range 5).map (cF a), z5, ()) := by
 refine i8 (F := L8 26) (s := fun i => ((i : Int), tn, a, z25, part (cF a) i z5, z5, ())) (y := (tn, a, z25, (List.range 5).map (cF a), z5, ())) 5 ?_ ?_ ?_ 26 (by omega)
 ·kernel_rfl
 ·exact fun i hi kn => m3 26 a tn kn k i hi
 ·intro kn; kernel_rfl
theorem l8_all {a tn : List Int} {β : Type} {k : _ → Option β} : m7 (L9 26) 26 ((0 : Int), tn, a, z25, (List.range 5).map (cF a), z5, ()) k = k (tn, a, z25, (List.range 5).map (dF a), ()) := by
 refine i8 (F := L9 26) (s := fun i => ((i : Int), tn, a, z25, (List.range 5).map (cF a), part (dF a) i z5, ())) (y := (tn, a, z25, (List.range 5).map (dF a), ())) 5 ?_ ?_ ?_ 26 (by omega)
 ·kernel_rfl
 ·intro i hi kn
  refine (m8 26 a tn kn k i hi).trans ?_
  rw [d4O (d9D _ _) (by omega), Option.bind_some, m8s a i hi]
 ·intro kn; kernel_rfl
theorem l14_all {a : List Int} {β : Type} {k : _ → Option β} : m7 (B2 26) 26 ((0 : Int), offs, a, z25, (List.range 5).map (dF a), z25, ()) k = k (a, z25, (List.range 25).map (bF a), ()) := by
 refine i8 (F := B2 26) (s := fun i => ((i : Int), offs, a, z25, (List.range 5).map (dF a), bAt a i, ())) (y := (a, z25, (List.range 25).map (bF a), ())) 25 ?_ ?_ ?_ 26 (by omega)
 ·kernel_rfl
 ·intro i hi kn
  refine (m14 26 a (bAt a i) kn k i hi).trans ?_
  rw [d4O (d3c _ _) (d7W i hi), Option.bind_some, d9J a i hi]
 ·intro kn
  have e : bAt a 25 = (List.range 25).map (bF a) := by
   refine List.map_congr_left fun j hj => ?_
   have hj : j < 25 := List.mem_range.1 hj
   rw [if_pos]
   unfold d3Z; omega
  show B2 26 β ((25 : Nat), offs, a, z25, (List.range 5).map (dF a), bAt a 25, ()) kn k = _
  rw [e]
  kernel_rfl
theorem d6e {a : List Int} (ha : a.length = 25) {β : Type} {k : _ → Option β} : m7 (B3 26) 26 ((0 : Int), a, z25, (List.range 25).map (bF a), ()) k = k (d36 a, z25, ()) := by
 refine i8 (F := B3 26) (s := fun i => ((i : Int), part (eF (bF a)) i a, z25, (List.range 25).map (bF a), ())) (y := (d36 a, z25, ())) 25 ?_ ?_ ?_ 26 (by omega)
 ·rw [b6H]; rfl
 ·intro i hi kn
  refine (m20 26 a _ kn k i hi).trans ?_
  rw [c0g (by rw [ha]; exact hi)]
 ·intro kn
  show B3 26 β ((25 : Nat), part (eF (bF a)) 25 a, z25, (List.range 25).map (bF a), ()) kn k = _
  rw [B7 ha]
  kernel_rfl
theorem c2V : ∀ x r, a4m x = some r → ∃ N, a4v N x = some r := by
 refine d9 (ks := S9) (rs := T0) fun x hw hq => ⟨26, ?_⟩
 obtain ⟨(a : List Int), (tn : List Int), u⟩ := x
 have hq : tn = offs := hq
 subst hq
 have ha : u64s 25 a := c4U.1 hw.1
 unfold a4v
 refine l3_all.trans ?_
 refine l8_all.trans ?_
 refine l14_all.trans ?_
 exact d6e ha.1
theorem d6n : Kd.wf (.rp (.xs (.int .i64) 25)) offs := by
 refine ⟨rfl, fun z hz => ?_⟩
 have h : ∀ z ∈ offs, 0 ≤ z ∧ z < 64 := by decide
 have := h z hz
 exact u2.2 (by omega)
theorem d3w {a : List Int} (ha : u64s 25 a) : a4m (a, offs, ()) = some (d36 a) :=
 d8 (ks := S9) (rs := T0) (x := (a, offs, ())) ⟨c4U.2 ha, d6n, trivial⟩ rfl
theorem d7Q {a : List Int} (ha : u64s 25 a) {β : Type} {k : _ → Option β} : m7 (F6 26) 26 (cons, (0 : Int), a, z25, offs, ()) k = k (c2N a, z25, ()) := by
 refine i8 (F := F6 26) (s := fun i => (cons, (i : Int), d0u i a, z25, offs, ())) (y := (c2N a, z25, ())) 24 rfl ?_ ?_ 26 (by omega)
 ·intro i hi kn
  have hp := d2z ha i
  unfold F6
  dsimp only
  rw [if_pos (by omega), if_pos (by omega), if_pos (by omega), if_pos (by omega), d3w hp, Option.bind_some, c7 (by omega) (by omega), Int.toNat_natCast]
  rfl
 ·intro kn
  rfl
theorem b9U : ∀ x r, H0 x = some r → ∃ N, a2e N x = some r := by
 refine d9 (ks := w8) (rs := a2A) fun x hw hq => ⟨26, ?_⟩
 obtain ⟨(a : List Int), u⟩ := x
 have ha : u64s 25 a := c4U.1 hw.1
 unfold a2e
 rw [c9P, Option.bind_some, c5h, Option.bind_some]
 exact (d7Q ha).trans rfl
theorem c63 {a : List Int} (ha : u64s 25 a) : H0 (a, ()) = some (c2N a) :=
 d8 (ks := w8) (rs := a2A) (x := (a, ())) ⟨c4U.2 ha, trivial⟩ trivial
end Go.Ax.TryP
set_option linter.unusedVariables false
namespace Go.Ax.TryP
open Go.Proofs
def d3i (a : List Int) (p : Nat) (x : Int) : List Int := a.set (p / 8) (x64 (at0 a (p / 8)) (b0A .u64 x ((8 * (p % 8) : Nat) : Int)))
def c6O (rate : Nat) (s : List Int × Nat) (x : Int) : List Int × Nat := if s.2 + 1 = rate then (c2N (d3i s.1 s.2 x), 0) else (d3i s.1 s.2 x, s.2 + 1)
def b0z (rate : Nat) (s : List Int × Nat) (l : List Int) : List Int × Nat := l.foldl (c6O rate) s
def Q6 (rate : Nat) (e : Int) (s : List Int × Nat) (l : List Int) : List Int :=
 c2N (d3i (d3i (b0z rate s l).1 (b0z rate s l).2 e) (rate - 1) 128)
def a9Y : Nat → List Int → List Int
 | 0, a => a
 | n + 1, a => c2N (a9Y n a)
def c8E (a : List Int) (i : Nat) : Int := IntKind.u8.wrap (b9c .u64 (at0 a (i / 8)) ((8 * (i % 8) : Nat) : Int))
def b2E (rate : Nat) (a : List Int) (p : Nat) : Int := c8E (a9Y (p / rate) a) (p % rate)
def V9 (rate : Nat) (a : List Int) (p : Nat) : List Int × Nat := (a9Y ((p - 1) / rate) a, p - (p - 1) / rate * rate)
def b5J (r : Int) : Prop := 8 ≤ r ∧ r ≤ 200
abbrev Sp := List Int × Int × Int × Unit
noncomputable def D5 : Sp × Int × Unit → Option Sp := a0l (ks := [.io [.xs (.int .u64) 25, .int .i64, .int .i64], .int .u8]) (rs := [.cat [.xs (.int .u64) 25, .int .i64, .int .i64]]) (fun x => 0 ≤ x.1.2.2.1 ∧ x.1.2.2.1 < 200) fun x => (d3i x.1.1 x.1.2.2.1.toNat x.2.1, x.1.2.1, x.1.2.2.1, ())
noncomputable def O0 : Sp × Int × List (List Int) × Unit → Option Sp := a0l (ks := [.io [.xs (.int .u64) 25, .int .i64, .int .i64], .int .u8, .sls (.int .u8)]) (rs := [.cat [.xs (.int .u64) 25, .int .i64, .int .i64]])
 (fun x => b5J x.1.2.1 ∧ 0 ≤ x.1.2.2.1 ∧ x.1.2.2.1 < x.1.2.1) fun x => (Q6 x.1.2.1.toNat x.2.1 (x.1.1, x.1.2.2.1.toNat) x.2.2.1.flatten, x.1.2.1, 0, ())
noncomputable def N9 : Sp × List Int × Unit → Option (Sp × List Int) := a0l (ks := [.io [.xs (.int .u64) 25, .int .i64, .int .i64], .ios (.int .u8)]) (rs := [.cat [.xs (.int .u64) 25, .int .i64, .int .i64], .xv (.int .u8)])
 (fun x => b5J x.1.2.1 ∧ 0 ≤ x.1.2.2.1 ∧ x.1.2.2.1 ≤ x.1.2.1)
 fun x => (((V9 x.1.2.1.toNat x.1.1 (x.1.2.2.1.toNat + x.2.1.length)).1, x.1.2.1, ((V9 x.1.2.1.toNat x.1.1 (x.1.2.2.1.toNat + x.2.1.length)).2 : Int), ()), (List.range x.2.1.length).map fun k => b2E x.1.2.1.toNat x.1.1 (x.1.2.2.1.toNat + k))
abbrev Xf := Bool × List Int × Int × Int × Int × Unit
noncomputable def a06 : Xf × Unit → Option (Bool × Xf) := a0l (ks := [.io [.bool, .xs (.int .u64) 25, .int .i64, .int .i64, .int .i64]]) (rs := [.bool, .cat [.bool, .xs (.int .u64) 25, .int .i64, .int .i64, .int .i64]]) (fun _ => True) fun x => (!x.1.1, x.1)
def d7A (n : Int) : Int := if n < 0 then 1 else if 1048576 < n then 3 else 0
noncomputable def a2H : Int × Unit → Option Int := a0l (ks := [.int .i64]) (rs := [.int .i64]) (fun _ => True) fun x => d7A x.1
noncomputable def o0 : Xf × Int × Unit → Option (List Int × Int × Xf) := a0l (ks := [.io [.bool, .xs (.int .u64) 25, .int .i64, .int .i64, .int .i64], .int .i64]) (rs := [.sl (.int .u8), .int .i64, .cat [.bool, .xs (.int .u64) 25, .int .i64, .int .i64, .int .i64]])
 (fun x => x.1.1 = true ∧ 0 ≤ x.2.1 ∧ x.2.1 ≤ 1048576 ∧ b5J x.1.2.2.1 ∧ 0 ≤ x.1.2.2.2.1 ∧ x.1.2.2.2.1 ≤ x.1.2.2.1)
 fun x => ((List.range x.2.1.toNat).map (fun k => b2E x.1.2.2.1.toNat x.1.2.1 (x.1.2.2.2.1.toNat + k)), 0,
  (true, (V9 x.1.2.2.1.toNat x.1.2.1 (x.1.2.2.2.1.toNat + x.2.1.toNat)).1, x.1.2.2.1, ((V9 x.1.2.2.1.toNat x.1.2.1 (x.1.2.2.2.1.toNat + x.2.1.toNat)).2 : Int), IntKind.i64.wrap (x.1.2.2.2.2.1 + x.2.1), ()))
noncomputable def X8 : Int × List (List Int) × Unit → Option Xf := a0l (ks := [.int .i64, .sls (.int .u8)]) (rs := [.op [.bool, .xs (.int .u64) 25, .int .i64, .int .i64, .int .i64]]) (fun x => b5J x.1) fun x => (true, Q6 x.1.toNat 31 (z25, 0) x.2.1.flatten, x.1, 0, 0, ())
noncomputable def D4 : List (List Int) × Unit → Option Xf := a0l (ks := [.sls (.int .u8)]) (rs := [.op [.bool, .xs (.int .u64) 25, .int .i64, .int .i64, .int .i64]]) (fun _ => True) fun x => (true, Q6 168 31 (z25, 0) x.1.flatten, 168, 0, 0, ())
def a0d (rate : Nat) (e : Int) (l : List Int) (n : Nat) : List Int := (List.range n).map (b2E rate (Q6 rate e (z25, 0) l))
noncomputable def R7 : List (List Int) × Unit → Option Xf := a0l (ks := [.sls (.int .u8)]) (rs := [.op [.bool, .xs (.int .u64) 25, .int .i64, .int .i64, .int .i64]]) (fun _ => True) fun x => (true, Q6 136 31 (z25, 0) x.1.flatten, 136, 0, 0, ())
noncomputable def v3 : Int × Int × List (List Int) × Unit → Option (List Int × Int) := a0l (ks := [.int .i64, .int .i64, .sls (.int .u8)]) (rs := [.sl (.int .u8), .int .i64]) (fun x => (x.1 = 128 ∨ x.1 = 256) ∧ 0 ≤ x.2.1 ∧ x.2.1 ≤ 1048576) fun x => (a0d (if x.1 = 128 then 168 else 136) 31 x.2.2.1.flatten x.2.1.toNat, 0)
def shk (l : List Int) (p : Nat) : Int := b2E 168 (Q6 168 31 (z25, 0) l) p
def shb (l : List Int) (p : Nat) : Int := b2E 136 (Q6 136 31 (z25, 0) l) p
end Go.Ax.TryP
set_option linter.unusedVariables false
namespace Go.Ax.TryP
open Go.Proofs
noncomputable def p_keccak_sponge_put_E : AE := AE.of [(3, ty3), (5, ty5), (109, ty109), (110, ty110), (112, ty112)] []
noncomputable def b2a : Hints := [(3000000, [])]
noncomputable def b2b : Code := (Try.f75).body.getD .skip
abbrev D0 : List Kd := [.io [.xs (.int .u64) 25, .int .i64, .int .i64], .int .u8]
abbrev D1 : List Kd := [.cat [.xs (.int .u64) 25, .int .i64, .int .i64]]
noncomputable def V6 (N : Nat) (x : (List Int × Int × Int × Unit) × Int × Unit) : Option ((List Int × Int × Int × Unit)) :=
 if 0 ≤ (IntKind.i64.wrap (Int.tdiv x.1.2.2.1 (8:Int))) then (
 if (IntKind.i64.wrap (Int.tdiv x.1.2.2.1 (8:Int))) < 25 then (
 if ((IntKind.i64.wrap (Int.tdiv x.1.2.2.1 (8:Int))).toNat) < 25 then (
 if (IntKind.i64.wrap ((8:Int) * (Int.tmod x.1.2.2.1 (8:Int)))) < 0 then none else (
 if 0 ≤ (IntKind.i64.wrap (Int.tdiv x.1.2.2.1 (8:Int))) then (
 if (IntKind.i64.wrap (Int.tdiv x.1.2.2.1 (8:Int))) < 25 then (
 if ((IntKind.i64.wrap (Int.tdiv x.1.2.2.1 (8:Int))).toNat) < 25 then (
 some ((List.set x.1.1 ((IntKind.i64.wrap (Int.tdiv x.1.2.2.1 (8:Int))).toNat) (b9d IntKind.u64 (List.getD x.1.1 ((IntKind.i64.wrap (Int.tdiv x.1.2.2.1 (8:Int))).toNat) 0) (b0A IntKind.u64 (IntKind.u64.wrap x.2.1) (IntKind.i64.wrap ((8:Int) * (Int.tmod x.1.2.2.1 (8:Int))))))), x.1.2.1, x.1.2.2.1, ())) else none) else none) else none)) else none) else none) else none
theorem a9V : p_keccak_sponge_put_E.Ok Try.prog := AE.of_ok (all_cons a5x (all_cons Z1 (all_cons b6Z (all_cons b2H (all_cons b60 c6))))) c6
theorem b0Z (hE : p_keccak_sponge_put_E.Ok Try.prog) {g : Ds D0 → Option (Rs D1)} (hg : ∀ x r, g x = some r → ∃ N, V6 N x = some r) : c8 Try.prog 75 ⟨D0, D1, g⟩ :=
 i5 (E := p_keccak_sponge_put_E) (H := b2a) (L := fun N => LT.nil) (c := b2b) (ks := D0) (rs := D1) (F := V6) hE mix Try.func75 (by kernel_rfl) (fun N => OkAll.nil) (fun _ _ => by kernel_rfl) hg
noncomputable abbrev a2o : Sig := ⟨[.io [.xs (.int .u64) 25, .int .i64, .int .i64], .int .u8], [.cat [.xs (.int .u64) 25, .int .i64, .int .i64]], D5⟩
noncomputable abbrev X2 : Sig := ⟨[.xs (.int .u64) 25], [.xs (.int .u64) 25], H0⟩
noncomputable def p_keccak_sponge_takes_E : AE := AE.of [(3, ty3), (5, ty5), (23, ty23), (35, ty35), (110, ty110), (112, ty112)] [(75, a2o), (74, X2)]
noncomputable def V7 : Hints := [(1, [0, 1, 10, 11, 12]), (4, [0, 1, 10, 11, 12, 16, 17, 18]), (2000000, [0, 1]), (2000001, [0, 1, 10, 11, 12]), (2000002, [0, 1, 10, 11, 12]), (2000003, [0, 1, 10, 11, 12, 16, 17, 18]), (3000000, [])]
noncomputable def B1 : Code := (Try.f73).body.getD .skip
noncomputable def a6X : Shape := mkS { tmps := .sc (.ptr 0 0 false) :: .sc (.int .u8) :: pv 8 (.sc (.frs b8) :: .sc (.int .i64) :: .sc (.int .i64) :: pv 3 (.sc (.fr b8) :: .sc (.int .i64) :: .sc (.int .i64) :: pv 59 [])), mem := [.live [.xs (.int .u64) (some 25), .one (.int .i64), .one (.int .i64)] (.mt 0)] } [.int, .xss, .int, .int, .xs, .int, .int, .xs, .int, .int]
abbrev W7 : Type := Int × List (List Int) × Int × Int × List Int × Int × Int × List Int × Int × Int × Unit
abbrev W8 : Type := Int × List (List Int) × Int × Int × List Int × Int × Int × Unit
noncomputable def j7 (N : Nat) (β : Type) (x : W7) (kn : W7 → Option β) (ke : W8 → Option β) : Option β :=
 if (x.2.2.2.2.2.2.1 < x.2.2.2.2.2.1) then
  if 0 ≤ x.2.2.2.2.2.2.1 then (
  if x.2.2.2.2.2.2.1 < ((List.length x.2.2.2.2.1 : Nat) : Int) then (
  (D5 ((x.2.2.2.2.2.2.2.1, x.2.2.2.2.2.2.2.2.1, x.2.2.2.2.2.2.2.2.2.1, ()), (List.getD x.2.2.2.2.1 (x.2.2.2.2.2.2.1.toNat) 0), ())).bind fun r1 => (
  if ((IntKind.i64.wrap (r1.2.2.1 + (1:Int))) = r1.2.1) then
   (H0 (r1.1, ())).bind fun r2 => (
   kn (x.1, x.2.1, x.2.2.1, x.2.2.2.1, x.2.2.2.2.1, x.2.2.2.2.2.1, (IntKind.i64.wrap (x.2.2.2.2.2.2.1 + (1:Int))), r2, r1.2.1, (0:Int), ()))
  else
   kn (x.1, x.2.1, x.2.2.1, x.2.2.2.1, x.2.2.2.2.1, x.2.2.2.2.2.1, (IntKind.i64.wrap (x.2.2.2.2.2.2.1 + (1:Int))), r1.1, r1.2.1, (IntKind.i64.wrap (r1.2.2.1 + (1:Int))), ()))) else none) else none
 else
  ke (x.1, x.2.1, x.2.2.1, x.2.2.2.1, x.2.2.2.2.2.2.2.1, x.2.2.2.2.2.2.2.2.1, x.2.2.2.2.2.2.2.2.2.1, ())
noncomputable def a6y : Go' W8 := fun y K => K (.exit 2) (fSt { tmps := .sc (.ptr 0 0 false) :: .sc (.int .u8) :: pv 8 (.sc (.frs b8) :: .sc (.int .i64) :: .sc (.int .i64) :: pv 65 []), mem := [.live [.xs (.int .u64) (some 25), .one (.int .i64), .one (.int .i64)] (.mt 0)] } [.int, .xss, .int, .int, .xs, .int, .int] y)
noncomputable def a1n (N : Nat) : LT := upd (LT.nil) 4 (o6 a6X N (j7 N) a6y)
theorem a6z (N : Nat) : OkAll p_keccak_sponge_takes_E V7 N (a1n N) (w9 B1) :=
 d6 (c := d7 4 B1) (OkAll.nil) (by kernel_rfl) (fun x => by kernel_rfl) (fun β x kn ke => by kernel_rfl)
noncomputable def a6W : Shape := mkS { tmps := .sc (.ptr 0 0 false) :: .sc (.int .u8) :: pv 8 (.sc (.frs b8) :: .sc (.int .i64) :: .sc (.int .i64) :: pv 65 []), mem := [.live [.xs (.int .u64) (some 25), .one (.int .i64), .one (.int .i64)] (.mt 0)] } [.int, .xss, .int, .int, .xs, .int, .int]
abbrev W9 : Type := Int × List Int × Int × Int × Unit
noncomputable def n8 (N : Nat) (β : Type) (x : W8) (kn : W8 → Option β) (ke : W9 → Option β) : Option β :=
 if (x.2.2.2.1 < x.2.2.1) then
  if 0 ≤ x.2.2.2.1 then (
  if x.2.2.2.1 < ((List.length x.2.1 : Nat) : Int) then (
  m7 (j7 N) N (x.1, x.2.1, x.2.2.1, x.2.2.2.1, (List.getD x.2.1 (x.2.2.2.1.toNat) []), ((List.length (List.getD x.2.1 (x.2.2.2.1.toNat) []) : Nat) : Int), (0:Int), x.2.2.2.2.1, x.2.2.2.2.2.1, x.2.2.2.2.2.2.1, ()) fun y3 => (
  kn (y3.1, y3.2.1, y3.2.2.1, (IntKind.i64.wrap (y3.2.2.2.1 + (1:Int))), y3.2.2.2.2.1, y3.2.2.2.2.2.1, y3.2.2.2.2.2.2.1, ()))) else none) else none
 else
  ke (x.1, x.2.2.2.2.1, x.2.2.2.2.2.1, x.2.2.2.2.2.2.1, ())
noncomputable def a6w : Go' W9 := fun y K => K (.exit 0) (fSt { tmps := .sc (.ptr 0 0 false) :: .sc (.int .u8) :: pv 76 [], mem := [.live [.xs (.int .u64) (some 25), .one (.int .i64), .one (.int .i64)] (.mt 0)] } [.int, .xs, .int, .int] y)
noncomputable def a1m (N : Nat) : LT := upd (a1n N) 1 (o6 a6W N (n8 N) a6w)
theorem a6x (N : Nat) : OkAll p_keccak_sponge_takes_E V7 N (a1m N) (w9 B1) :=
 d6 (c := d7 1 B1) (a6z N) (by kernel_rfl) (fun x => by kernel_rfl) (fun β x kn ke => by kernel_rfl)
abbrev z6 : List Kd := [.io [.xs (.int .u64) 25, .int .i64, .int .i64], .int .u8, .sls b8]
abbrev z7 : List Kd := [.cat [.xs (.int .u64) 25, .int .i64, .int .i64]]
noncomputable def P5 (N : Nat) (x : (List Int × Int × Int × Unit) × Int × List (List Int) × Unit) : Option ((List Int × Int × Int × Unit)) :=
 m7 (n8 N) N (x.2.1, x.2.2.1, ((List.length x.2.2.1 : Nat) : Int), (0:Int), x.1.1, x.1.2.1, x.1.2.2.1, ()) fun y4 => (
 (D5 ((y4.2.1, y4.2.2.1, y4.2.2.2.1, ()), y4.1, ())).bind fun r5 => (
 (D5 ((r5.1, r5.2.1, (IntKind.i64.wrap (r5.2.1 - (1:Int))), ()), (128:Int), ())).bind fun r6 => (
 (H0 (r6.1, ())).bind fun r7 => (
 some (r7, r6.2.1, (0:Int), ())))))
theorem a72 (e0 : c8 Try.prog 75 a2o) (e1 : c8 Try.prog 74 X2) : p_keccak_sponge_takes_E.Ok Try.prog := AE.of_ok (all_cons a5x (all_cons Z1 (all_cons F8 (all_cons a2C (all_cons b2H (all_cons b60 c6)))))) (all_cons ⟨e0, a8q⟩ (all_cons ⟨e1, a4H⟩ c6))
theorem a8X (hE : p_keccak_sponge_takes_E.Ok Try.prog) {g : Ds z6 → Option (Rs z7)} (hg : ∀ x r, g x = some r → ∃ N, P5 N x = some r) : c8 Try.prog 73 ⟨z6, z7, g⟩ :=
 i5 (E := p_keccak_sponge_takes_E) (H := V7) (L := fun N => a1m N) (c := B1) (ks := z6) (rs := z7) (F := P5) hE mix Try.func73 (by kernel_rfl) (fun N => a6x N) (fun _ _ => by kernel_rfl) hg
noncomputable def p_keccak_sponge_gives_E : AE := AE.of [(3, ty3), (5, ty5), (23, ty23), (109, ty109), (110, ty110), (112, ty112)] [(74, X2)]
noncomputable def a3w : Hints := [(1, [0, 1, 6, 7]), (2000000, []), (2000001, [0, 1, 6, 7]), (3000000, [])]
noncomputable def V5 : Code := (Try.f72).body.getD .skip
noncomputable def a6V : Shape := mkS { tmps := .sc (.ptr 0 0 false) :: .sc (.vec 1 none 1) :: pv 4 (.sc (.int .i64) :: .sc (.int .i64) :: pv 51 []), mem := [.live [.xs (.int .u64) (some 25), .one (.int .i64), .one (.int .i64)] (.mt 0), .live [.xs b8 none] (.mt 1)] } [.nat, .int, .int, .xs, .int, .int, .nat, .xs]
abbrev W10 : Type := Nat × Int × Int × List Int × Int × Int × Nat × List Int × Unit
abbrev W11 : Type := List Int × Int × Int × Nat × List Int × Unit
noncomputable def n7 (N : Nat) (β : Type) (x : W10) (kn : W10 → Option β) (ke : W11 → Option β) : Option β :=
 if (x.2.2.1 < x.2.1) then
  if (x.2.2.2.2.2.1 = x.2.2.2.2.1) then
   (H0 (x.2.2.2.1, ())).bind fun r1 => (
   if 0 ≤ (IntKind.i64.wrap (Int.tdiv (0:Int) (8:Int))) then (
   if (IntKind.i64.wrap (Int.tdiv (0:Int) (8:Int))) < 25 then (
   if ((IntKind.i64.wrap (Int.tdiv (0:Int) (8:Int))).toNat) < 25 then (
   if (IntKind.i64.wrap ((8:Int) * (Int.tmod (0:Int) (8:Int)))) < 0 then none else (
   if 0 ≤ x.2.2.1 then (
   if x.2.2.1 < ((x.1 : Nat) : Int) then (
   if (x.2.2.1.toNat) < x.2.2.2.2.2.2.1 then (
   kn (x.1, x.2.1, (IntKind.i64.wrap (x.2.2.1 + (1:Int))), r1, x.2.2.2.2.1, (IntKind.i64.wrap ((0:Int) + (1:Int))), x.2.2.2.2.2.2.1, (List.set x.2.2.2.2.2.2.2.1 (x.2.2.1.toNat) (IntKind.u8.wrap (b9c IntKind.u64 (List.getD r1 ((IntKind.i64.wrap (Int.tdiv (0:Int) (8:Int))).toNat) 0) (IntKind.i64.wrap ((8:Int) * (Int.tmod (0:Int) (8:Int))))))), ())) else none) else none) else none)) else none) else none) else none)
  else
   if 0 ≤ (IntKind.i64.wrap (Int.tdiv x.2.2.2.2.2.1 (8:Int))) then (
   if (IntKind.i64.wrap (Int.tdiv x.2.2.2.2.2.1 (8:Int))) < 25 then (
   if ((IntKind.i64.wrap (Int.tdiv x.2.2.2.2.2.1 (8:Int))).toNat) < 25 then (
   if (IntKind.i64.wrap ((8:Int) * (Int.tmod x.2.2.2.2.2.1 (8:Int)))) < 0 then none else (
   if 0 ≤ x.2.2.1 then (
   if x.2.2.1 < ((x.1 : Nat) : Int) then (
   if (x.2.2.1.toNat) < x.2.2.2.2.2.2.1 then (
   kn (x.1, x.2.1, (IntKind.i64.wrap (x.2.2.1 + (1:Int))), x.2.2.2.1, x.2.2.2.2.1, (IntKind.i64.wrap (x.2.2.2.2.2.1 + (1:Int))), x.2.2.2.2.2.2.1, (List.set x.2.2.2.2.2.2.2.1 (x.2.2.1.toNat) (IntKind.u8.wrap (b9c IntKind.u64 (List.getD x.2.2.2.1 ((IntKind.i64.wrap (Int.tdiv x.2.2.2.2.2.1 (8:Int))).toNat) 0) (IntKind.i64.wrap ((8:Int) * (Int.tmod x.2.2.2.2.2.1 (8:Int))))))), ())) else none) else none) else none)) else none) else none) else none
 else
  ke (x.2.2.2.1, x.2.2.2.2.1, x.2.2.2.2.2.1, x.2.2.2.2.2.2.1, x.2.2.2.2.2.2.2.1, ())
noncomputable def a6u : Go' W11 := fun y K => K (.exit 0) (fSt { tmps := pv 59 [], mem := [.live [.xs (.int .u64) (some 25), .one (.int .i64), .one (.int .i64)] (.mt 0), .live [.xs b8 none] (.mt 1)] } [.xs, .int, .int, .nat, .xs] y)
noncomputable def a1l (N : Nat) : LT := upd (LT.nil) 1 (o6 a6V N (n7 N) a6u)
theorem a6v (N : Nat) : OkAll p_keccak_sponge_gives_E a3w N (a1l N) (w9 V5) :=
 d6 (c := d7 1 V5) (OkAll.nil) (by kernel_rfl) (fun x => by kernel_rfl) (fun β x kn ke => by kernel_rfl)
abbrev y0 : List Kd := [.io [.xs (.int .u64) 25, .int .i64, .int .i64], .ios b8]
abbrev z4 : List Kd := [.cat [.xs (.int .u64) 25, .int .i64, .int .i64], .xv b8]
noncomputable def P4 (N : Nat) (x : (List Int × Int × Int × Unit) × List Int × Unit) : Option ((List Int × Int × Int × Unit) × List Int) :=
 m7 (n7 N) N ((List.length x.2.1), (((List.length x.2.1) : Nat) : Int), (0:Int), x.1.1, x.1.2.1, x.1.2.2.1, (List.length x.2.1), x.2.1, ()) fun y2 => (
 some ((y2.1, y2.2.1, y2.2.2.1, ()), y2.2.2.2.2.1))
theorem a71 (e0 : c8 Try.prog 74 X2) : p_keccak_sponge_gives_E.Ok Try.prog := AE.of_ok (all_cons a5x (all_cons Z1 (all_cons F8 (all_cons b6Z (all_cons b2H (all_cons b60 c6)))))) (all_cons ⟨e0, a4H⟩ c6)
theorem a8W (hE : p_keccak_sponge_gives_E.Ok Try.prog) {g : Ds y0 → Option (Rs z4)} (hg : ∀ x r, g x = some r → ∃ N, P4 N x = some r) : c8 Try.prog 72 ⟨y0, z4, g⟩ :=
 i5 (E := p_keccak_sponge_gives_E) (H := a3w) (L := fun N => a1l N) (c := V5) (ks := y0) (rs := z4) (F := P4) hE mix Try.func72 (by kernel_rfl) (fun N => a6v N) (fun _ _ => by kernel_rfl) hg
noncomputable def p_keccak_Xof_none_E : AE := AE.of [(4, ty4), (102, ty102), (114, ty114)] []
noncomputable def b4S : Hints := [(3000000, [2])]
noncomputable def b4T : Code := (Try.f71).body.getD .skip
abbrev I6 : List Kd := [.io [.bool, .xs (.int .u64) 25, .int .i64, .int .i64, .int .i64]]
abbrev I7 : List Kd := [.bool, .cat [.bool, .xs (.int .u64) 25, .int .i64, .int .i64, .int .i64]]
noncomputable def a4d (N : Nat) (x : (Bool × List Int × Int × Int × Int × Unit) × Unit) : Option (Bool × (Bool × List Int × Int × Int × Int × Unit)) :=
 some ((decide (¬ (x.1.1 = true))), ((decide (x.1.1 = true)), x.1.2.1, x.1.2.2.1, x.1.2.2.2.1, x.1.2.2.2.2.1, ()))
theorem b1U : p_keccak_Xof_none_E.Ok Try.prog := AE.of_ok (all_cons c3B (all_cons d4A (all_cons c4P c6))) c6
theorem b3k (hE : p_keccak_Xof_none_E.Ok Try.prog) {g : Ds I6 → Option (Rs I7)} (hg : ∀ x r, g x = some r → ∃ N, a4d N x = some r) : c8 Try.prog 71 ⟨I6, I7, g⟩ :=
 i5 (E := p_keccak_Xof_none_E) (H := b4S) (L := fun N => LT.nil) (c := b4T) (ks := I6) (rs := I7) (F := a4d) hE mix Try.func71 (by kernel_rfl) (fun N => OkAll.nil) (fun _ _ => by kernel_rfl) hg
noncomputable def p_keccak_may_E : AE := AE.of [] []
noncomputable def c2I : Hints := [(2000000, []), (3000000, [2])]
noncomputable def c2J : Code := (Try.f62).body.getD .skip
abbrev a6q : List Kd := [.int .i64]
abbrev a6r : List Kd := [.int .i64]
noncomputable def a7p (N : Nat) (x : Int × Unit) : Option (Int) :=
 if (x.1 < (0:Int)) then
  some (1:Int)
 else
  if (x.1 > (1048576:Int)) then
   some (3:Int)
  else
   some (0:Int)
theorem b9L : p_keccak_may_E.Ok Try.prog := AE.of_ok c6 c6
theorem c1H (hE : p_keccak_may_E.Ok Try.prog) {g : Ds [.int .i64] → Option (Rs [.int .i64])} (hg : ∀ x r, g x = some r → ∃ N, a7p N x = some r) : c8 Try.prog 62 ⟨[.int .i64], [.int .i64], g⟩ :=
 i5 (E := p_keccak_may_E) (H := c2I) (L := fun N => LT.nil) (c := c2J) (ks := a6q) (rs := a6r) (F := a7p) hE mix Try.func62 (by kernel_rfl) (fun N => OkAll.nil) (fun _ _ => by kernel_rfl) hg
noncomputable abbrev a3S : Sig := ⟨[.io [.bool, .xs (.int .u64) 25, .int .i64, .int .i64, .int .i64]], [.bool, .cat [.bool, .xs (.int .u64) 25, .int .i64, .int .i64, .int .i64]], a06⟩
noncomputable abbrev a4F : Sig := ⟨[.int .i64], [.int .i64], a2H⟩
noncomputable abbrev a0p : Sig := ⟨[.io [.xs (.int .u64) 25, .int .i64, .int .i64], .ios b8], [.cat [.xs (.int .u64) 25, .int .i64, .int .i64], .xv b8], N9⟩
noncomputable def p_keccak_Xof_Read_E : AE := AE.of [(3, ty3), (5, ty5), (23, ty23), (112, ty112), (114, ty114)] [(71, a3S), (62, a4F), (72, a0p)]
noncomputable def b4Q : Hints := [(3000000, [4, 5])]
noncomputable def b4R : Code := (Try.f64).body.getD .skip
abbrev I4 : List Kd := [.io [.bool, .xs (.int .u64) 25, .int .i64, .int .i64, .int .i64], .int .i64]
abbrev I5 : List Kd := [.sl b8, .int .i64, .cat [.bool, .xs (.int .u64) 25, .int .i64, .int .i64, .int .i64]]
noncomputable def a1f (N : Nat) (x : (Bool × List Int × Int × Int × Int × Unit) × Int × Unit) : Option (List Int × Int × (Bool × List Int × Int × Int × Int × Unit)) :=
 (a06 (((decide (x.1.1 = true)), x.1.2.1, x.1.2.2.1, x.1.2.2.2.1, x.1.2.2.2.2.1, ()), ())).bind fun r1 => (
 if (r1.1 = true) then
  some ([], (2:Int), ((decide (r1.2.1 = true)), r1.2.2.1, r1.2.2.2.1, r1.2.2.2.2.1, r1.2.2.2.2.2.1, ()))
 else
  (a2H (x.2.1, ())).bind fun r2 => (
  if (r2 ≠ (0:Int)) then
   some ([], r2, ((decide (r1.2.1 = true)), r1.2.2.1, r1.2.2.2.1, r1.2.2.2.2.1, r1.2.2.2.2.2.1, ()))
  else
   if 0 ≤ x.2.1 then (
   if x.2.1 = x.2.1 then (
   if x.2.1 * 1 ≤ 281474976710656 then (
   (N9 ((r1.2.2.1, r1.2.2.2.1, r1.2.2.2.2.1, ()), (List.replicate (x.2.1.toNat) 0), ())).bind fun r3 => (
   if (List.length r3.2) = (x.2.1.toNat) then (
   some (r3.2, (0:Int), ((decide (r1.2.1 = true)), r3.1.1, r3.1.2.1, r3.1.2.2.1, (IntKind.i64.wrap (r1.2.2.2.2.2.1 + x.2.1)), ()))) else none)) else none) else none) else none))
theorem b1T (e0 : c8 Try.prog 71 a3S) (e1 : c8 Try.prog 62 a4F) (e2 : c8 Try.prog 72 a0p) : p_keccak_Xof_Read_E.Ok Try.prog := AE.of_ok (all_cons a5x (all_cons Z1 (all_cons F8 (all_cons b60 (all_cons c4P c6))))) (all_cons ⟨e0, b0w⟩ (all_cons ⟨e1, a8p⟩ (all_cons ⟨e2, a6N⟩ c6)))
theorem b3j (hE : p_keccak_Xof_Read_E.Ok Try.prog) {g : Ds I4 → Option (Rs I5)} (hg : ∀ x r, g x = some r → ∃ N, a1f N x = some r) : c8 Try.prog 64 ⟨I4, I5, g⟩ :=
 i5 (E := p_keccak_Xof_Read_E) (H := b4Q) (L := fun N => LT.nil) (c := b4R) (ks := I4) (rs := I5) (F := a1f) hE mix Try.func64 (by kernel_rfl) (fun N => OkAll.nil) (fun _ _ => by kernel_rfl) hg
noncomputable abbrev a0q : Sig := ⟨[.io [.xs (.int .u64) 25, .int .i64, .int .i64], .int .u8, .sls b8], [.cat [.xs (.int .u64) 25, .int .i64, .int .i64]], O0⟩
noncomputable def p_keccak_started_E : AE := AE.of [(3, ty3), (4, ty4), (110, ty110), (112, ty112), (114, ty114)] [(73, a0q)]
noncomputable def b6x : Hints := [(3000000, [4])]
noncomputable def b6y : Code := (Try.f70).body.getD .skip
abbrev M1 : List Kd := [.int .i64, .sls b8]
abbrev M2 : List Kd := [.op [.bool, .xs (.int .u64) 25, .int .i64, .int .i64, .int .i64]]
noncomputable def a2f (N : Nat) (x : Int × List (List Int) × Unit) : Option ((Bool × List Int × Int × Int × Int × Unit)) :=
 (O0 (((List.replicate 25 0), (List.getD (List.set [0] 0 x.1) 0 0), (List.getD [0] 0 0), ()), (31:Int), x.2.1, ())).bind fun r1 => (
 some (((List.getD (List.set [0] 0 (1:Int)) 0 0) != 0), r1.1, r1.2.1, r1.2.2.1, (List.getD [0] 0 0), ()))
theorem b3u (e0 : c8 Try.prog 73 a0q) : p_keccak_started_E.Ok Try.prog := AE.of_ok (all_cons a5x (all_cons c3B (all_cons b2H (all_cons b60 (all_cons c4P c6))))) (all_cons ⟨e0, a6O⟩ c6)
theorem b4X (hE : p_keccak_started_E.Ok Try.prog) {g : Ds M1 → Option (Rs M2)} (hg : ∀ x r, g x = some r → ∃ N, a2f N x = some r) : c8 Try.prog 70 ⟨M1, M2, g⟩ :=
 i5 (E := p_keccak_started_E) (H := b6x) (L := fun N => LT.nil) (c := b6y) (ks := M1) (rs := M2) (F := a2f) hE mix Try.func70 (by kernel_rfl) (fun N => OkAll.nil) (fun _ _ => by kernel_rfl) hg
noncomputable abbrev X3 : Sig := ⟨[.int .i64, .sls b8], [.op [.bool, .xs (.int .u64) 25, .int .i64, .int .i64, .int .i64]], X8⟩
noncomputable def p_keccak_Shake128_E : AE := AE.of [] [(70, X3)]
noncomputable def b4M : Hints := [(3000000, [2])]
noncomputable def b4N : Code := (Try.f63).body.getD .skip
abbrev I0 : List Kd := [.sls b8]
abbrev I1 : List Kd := [.op [.bool, .xs (.int .u64) 25, .int .i64, .int .i64, .int .i64]]
noncomputable def a1d (N : Nat) (x : List (List Int) × Unit) : Option ((Bool × List Int × Int × Int × Int × Unit)) :=
 (X8 ((168:Int), x.1, ())).bind fun r1 => (
 some ((decide (r1.1 = true)), r1.2.1, r1.2.2.1, r1.2.2.2.1, r1.2.2.2.2.1, ()))
theorem b1R (e0 : c8 Try.prog 70 X3) : p_keccak_Shake128_E.Ok Try.prog := AE.of_ok c6 (all_cons ⟨e0, a4I⟩ c6)
theorem b3h (hE : p_keccak_Shake128_E.Ok Try.prog) {g : Ds I0 → Option (Rs I1)} (hg : ∀ x r, g x = some r → ∃ N, a1d N x = some r) : c8 Try.prog 63 ⟨I0, I1, g⟩ :=
 i5 (E := p_keccak_Shake128_E) (H := b4M) (L := fun N => LT.nil) (c := b4N) (ks := I0) (rs := I1) (F := a1d) hE mix Try.func63 (by kernel_rfl) (fun N => OkAll.nil) (fun _ _ => by kernel_rfl) hg
noncomputable def p_keccak_Shake256_E : AE := AE.of [] [(70, X3)]
noncomputable def b4O : Hints := [(3000000, [2])]
noncomputable def b4P : Code := (Try.f65).body.getD .skip
abbrev I2 : List Kd := [.sls b8]
abbrev I3 : List Kd := [.op [.bool, .xs (.int .u64) 25, .int .i64, .int .i64, .int .i64]]
noncomputable def a1e (N : Nat) (x : List (List Int) × Unit) : Option ((Bool × List Int × Int × Int × Int × Unit)) :=
 (X8 ((136:Int), x.1, ())).bind fun r1 => (
 some ((decide (r1.1 = true)), r1.2.1, r1.2.2.1, r1.2.2.2.1, r1.2.2.2.2.1, ()))
theorem b1S (e0 : c8 Try.prog 70 X3) : p_keccak_Shake256_E.Ok Try.prog := AE.of_ok c6 (all_cons ⟨e0, a4I⟩ c6)
theorem b3i (hE : p_keccak_Shake256_E.Ok Try.prog) {g : Ds I2 → Option (Rs I3)} (hg : ∀ x r, g x = some r → ∃ N, a1e N x = some r) : c8 Try.prog 65 ⟨I2, I3, g⟩ :=
 i5 (E := p_keccak_Shake256_E) (H := b4O) (L := fun N => LT.nil) (c := b4P) (ks := I2) (rs := I3) (F := a1e) hE mix Try.func65 (by kernel_rfl) (fun N => OkAll.nil) (fun _ _ => by kernel_rfl) hg
noncomputable abbrev R5 : Sig := ⟨[.sls b8], [.op [.bool, .xs (.int .u64) 25, .int .i64, .int .i64, .int .i64]], D4⟩
noncomputable abbrev R6 : Sig := ⟨[.io [.bool, .xs (.int .u64) 25, .int .i64, .int .i64, .int .i64], .int .i64], [.sl b8, .int .i64, .cat [.bool, .xs (.int .u64) 25, .int .i64, .int .i64, .int .i64]], o0⟩
noncomputable abbrev a3R : Sig := ⟨[.sls b8], [.op [.bool, .xs (.int .u64) 25, .int .i64, .int .i64, .int .i64]], R7⟩
noncomputable def p_keccak_Shake_E : AE := AE.of [] [(62, a4F), (63, R5), (64, R6), (65, a3R)]
noncomputable def b9J : Hints := [(3000000, [6, 7])]
noncomputable def b9K : Code := (Try.f42).body.getD .skip
abbrev S7 : List Kd := [.int .i64, .int .i64, .sls b8]
abbrev S8 : List Kd := [.sl b8, .int .i64]
noncomputable def a4u (N : Nat) (x : Int × Int × List (List Int) × Unit) : Option (List Int × Int) :=
 if (x.1 ≠ (128:Int)) then
  if (x.1 ≠ (256:Int)) then
   some ([], (1:Int))
  else
   (a2H (x.2.1, ())).bind fun r1 => (
   if (r1 ≠ (0:Int)) then
    some ([], r1)
   else
    if (x.1 = (128:Int)) then
     (D4 (x.2.2.1, ())).bind fun r2 => (
     (o0 (((decide (r2.1 = true)), r2.2.1, r2.2.2.1, r2.2.2.2.1, r2.2.2.2.2.1, ()), x.2.1, ())).bind fun r3 => (
     some (r3.1, r3.2.1)))
    else
     (R7 (x.2.2.1, ())).bind fun r4 => (
     (o0 (((decide (r4.1 = true)), r4.2.1, r4.2.2.1, r4.2.2.2.1, r4.2.2.2.2.1, ()), x.2.1, ())).bind fun r5 => (
     some (r5.1, r5.2.1))))
 else
  (a2H (x.2.1, ())).bind fun r6 => (
  if (r6 ≠ (0:Int)) then
   some ([], r6)
  else
   if (x.1 = (128:Int)) then
    (D4 (x.2.2.1, ())).bind fun r7 => (
    (o0 (((decide (r7.1 = true)), r7.2.1, r7.2.2.1, r7.2.2.2.1, r7.2.2.2.2.1, ()), x.2.1, ())).bind fun r8 => (
    some (r8.1, r8.2.1)))
   else
    (R7 (x.2.2.1, ())).bind fun r9 => (
    (o0 (((decide (r9.1 = true)), r9.2.1, r9.2.2.1, r9.2.2.2.1, r9.2.2.2.2.1, ()), x.2.1, ())).bind fun r10 => (
    some (r10.1, r10.2.1))))
theorem b6t (e0 : c8 Try.prog 62 a4F) (e1 : c8 Try.prog 63 R5) (e2 : c8 Try.prog 64 R6) (e3 : c8 Try.prog 65 a3R) : p_keccak_Shake_E.Ok Try.prog := AE.of_ok c6 (all_cons ⟨e0, a8p⟩ (all_cons ⟨e1, a3F⟩ (all_cons ⟨e2, a3G⟩ (all_cons ⟨e3, b0v⟩ c6))))
theorem b8b (hE : p_keccak_Shake_E.Ok Try.prog) {g : Ds S7 → Option (Rs S8)} (hg : ∀ x r, g x = some r → ∃ N, a4u N x = some r) : c8 Try.prog 42 ⟨S7, S8, g⟩ :=
 i5 (E := p_keccak_Shake_E) (H := b9J) (L := fun N => LT.nil) (c := b9K) (ks := S7) (rs := S8) (F := a4u) hE mix Try.func42 (by kernel_rfl) (fun N => OkAll.nil) (fun _ _ => by kernel_rfl) hg
end Go.Ax.TryP
set_option linter.unusedVariables false
namespace Go.Ax.TryP
open Go.Proofs
theorem c6n : ∀ x r, a2H x = some r → ∃ N, a7p N x = some r := by
 refine d9 (ks := a6q) (rs := a6r) fun x hw hq => ⟨0, ?_⟩
 obtain ⟨(n : Int), u⟩ := x
 unfold a7p d7A
 dsimp only
 split
 ·rfl
 ·split
  ·rfl
  ·rfl
theorem b8o : ∀ x r, a06 x = some r → ∃ N, a4d N x = some r := by
 refine d9 (ks := I6) (rs := I7) fun x hw hq => ⟨0, ?_⟩
 obtain ⟨⟨(b : Bool), a, r, p, c, u⟩, v⟩ := x
 cases b <;> rfl
theorem d8o {p : Nat} : Int.tdiv (p : Int) 8 = ((p / 8 : Nat) : Int) := by rw [a95 (by omega)]; omega
theorem d8q {p : Nat} : Int.tmod (p : Int) 8 = ((p % 8 : Nat) : Int) := by rw [a96 (by omega)]; omega
theorem b46 : ∀ x r, D5 x = some r → ∃ N, V6 N x = some r := by
 refine d9 (ks := D0) (rs := D1) fun x hw hq => ⟨0, ?_⟩
 obtain ⟨⟨(a : List Int), (r : Int), (p : Int), u⟩, (z : Int), v⟩ := x
 have hq : 0 ≤ p ∧ p < 200 := hq
 have hz : 0 ≤ z ∧ z ≤ 255 := U8.1 hw.2.1
 obtain ⟨m, rfl⟩ : ∃ m : Nat, p = m := ⟨p.toNat, by omega⟩
 unfold V6
 dsimp only
 rw [d8o, d8q, c7 (by omega) (by omega), c7 (by omega) (by omega), c4V (by omega) (by omega), Int.toNat_natCast, if_pos (by omega), if_pos (by omega), if_pos (by omega), if_neg (by omega), if_pos (by omega), if_pos (by omega), if_pos (by omega)]
 rfl
theorem d3a {a : List Int} {r p : Int} : c4Y [.xs (.int .u64) 25, .int .i64, .int .i64] (a, r, p, ()) ↔ u64s 25 a ∧ (-9223372036854775808 ≤ r ∧ r ≤ 9223372036854775807) ∧ (-9223372036854775808 ≤ p ∧ p ≤ 9223372036854775807) := by
 have h1 : FK.wf (.xs (.int .u64) 25) a ↔ u64s 25 a := by simp [FK.wf, u64s, rows, b5I]
 have h2 : FK.wf (.int .i64) r ↔ _ := u2
 have h3 : FK.wf (.int .i64) p ↔ _ := u2
 simp only [c4Y, h1, h2, h3, and_true]
theorem c7M {a : List Int} (h : u64s 25 a) : ∀ n : Nat, u64s 25 (a9Y n a)
 | 0 => h
 | n + 1 => c7L (c7M h n)
theorem d2X {rate : Nat} (hr : 0 < rate) (a : List Int) {p : Nat} (h : (V9 rate a p).2 = rate) : p / rate = (p - 1) / rate + 1 ∧ p % rate = 0 := by
 unfold V9 at h
 dsimp only at h
 have e := Nat.div_add_mod (p - 1) rate
 have e1 := Nat.mod_lt (p - 1) hr
 generalize hq : (p - 1) / rate = q at *
 rw [Nat.mul_comm] at e
 have hp : p = (q + 1) * rate := by rw [Nat.add_mul, Nat.one_mul]; omega
 rw [hp]
 exact ⟨Nat.mul_div_cancel _ hr, Nat.mul_mod_left _ _⟩
theorem d2Z {rate : Nat} (hr : 0 < rate) (a : List Int) {p : Nat} (h : (V9 rate a p).2 ≠ rate) : p / rate = (p - 1) / rate ∧ p % rate = (V9 rate a p).2 ∧ (V9 rate a p).2 < rate := by
 unfold V9 at *
 dsimp only at *
 have e := Nat.div_add_mod (p - 1) rate
 have e1 := Nat.mod_lt (p - 1) hr
 generalize hq : (p - 1) / rate = q at *
 rw [Nat.mul_comm] at e
 have h1 : q * rate ≤ p := by omega
 have h2 : p - q * rate < rate := by omega
 have hp : p = (p - q * rate) + rate * q := by rw [Nat.mul_comm rate]; omega
 refine ⟨?_, ?_, h2⟩
 ·rw [hp, Nat.add_mul_div_left _ _ hr, Nat.div_eq_of_lt h2]; omega
 ·conv => lhs; rw [hp, Nat.add_mul_mod_self_left]
  exact Nat.mod_eq_of_lt h2
theorem d2Y {rate : Nat} (hr : 0 < rate) (a : List Int) (p : Nat) : V9 rate a (p + 1) = (a9Y (p / rate) a, p % rate + 1) := by
 unfold V9
 have e := Nat.div_add_mod p rate
 rw [Nat.mul_comm] at e
 rw [Nat.add_sub_cancel]
 congr 1
 omega
theorem b8w {rate : Nat} (a : List Int) {p : Nat} (hr : 0 < rate) (hp : p ≤ rate) : V9 rate a p = (a, p) := by
 unfold V9
 rw [Nat.div_eq_of_lt (by omega)]
 simp [a9Y]
theorem d0d {rate n : Nat} {a out : List Int} {p i : Nat} (ha : u64s 25 a) (hr : 8 ≤ rate ∧ rate ≤ 200) (hn : out.length = n) (hb : n ≤ maxLen) (hi : i < n) {β : Type} (N : Nat) (kn : _ → Option β) (k : _ → Option β) :
  n7 N β (n, (n : Int), (i : Int), (V9 rate a (p + i)).1, (rate : Int), ((V9 rate a (p + i)).2 : Int), n, part (fun k => b2E rate a (p + k)) i out, ()) kn k
  = kn (n, (n : Int), ((i + 1 : Nat) : Int), (V9 rate a (p + (i + 1))).1, (rate : Int), ((V9 rate a (p + (i + 1))).2 : Int), n, part (fun k => b2E rate a (p + k)) (i + 1) out, ()) := by
 have hm : maxLen ≤ 9223372036854775807 := by decide
 have h0 : 0 < rate := by omega
 have hu : u64s 25 (a9Y ((p + i - 1) / rate) a) := c7M ha _
 have hnext := d2Y h0 a (p + i)
 have hset : (part (fun k => b2E rate a (p + k)) i out).set i (b2E rate a (p + i)) = part (fun k => b2E rate a (p + k)) (i + 1) out := c0g (h := fun k => b2E rate a (p + k)) (by omega)
 unfold n7
 dsimp only
 rw [if_pos (by omega)]
 by_cases h : (V9 rate a (p + i)).2 = rate
 ·obtain ⟨h1, h2⟩ := d2X h0 a h
  rw [if_pos (by omega)]
  have e : H0 ((V9 rate a (p + i)).1, ()) = some (a9Y ((p + i) / rate) a) := by
   rw [h1]; exact c63 hu
  rw [e, Option.bind_some]
  have c1 : IntKind.i64.wrap (Int.tdiv 0 8) = 0 := by decide
  have c2 : IntKind.i64.wrap (8 * Int.tmod 0 8) = 0 := by decide
  rw [c1, c2, if_pos (by omega), if_pos (by omega), if_pos (by decide), if_neg (by omega), if_pos (by omega), if_pos (by omega), if_pos (by omega), Int.toNat_natCast, c7 (by omega) (by omega)]
  rw [show p + (i + 1) = p + i + 1 by omega, hnext, h2]
  have c3 : IntKind.u8.wrap (b9c IntKind.u64 (List.getD (a9Y ((p + i) / rate) a) (Int.toNat 0) 0) 0) = b2E rate a (p + i) := by
   unfold b2E; rw [h2]; rfl
  rw [c3, hset]
  rfl
 ·obtain ⟨h1, h2, h3⟩ := d2Z h0 a h
  rw [if_neg (by omega)]
  have e : (V9 rate a (p + i)).1 = a9Y ((p + i) / rate) a := by rw [h1]; rfl
  rw [e, ← h2, d8o, d8q, c7 (by omega) (by omega), c7 (x := 8 * (((p + i) % rate % 8 : Nat) : Int)) (by omega) (by omega), Int.toNat_natCast, if_pos (by omega), if_pos (by omega), if_pos (by omega), if_neg (by omega), if_pos (by omega), if_pos (by omega), if_pos (by omega), Int.toNat_natCast, c7 (by omega) (by omega), c7 (by omega) (by omega)]
  rw [show p + (i + 1) = p + i + 1 by omega, hnext]
  have c3 : IntKind.u8.wrap (b9c IntKind.u64 (List.getD (a9Y ((p + i) / rate) a) ((p + i) % rate / 8) 0) (8 * (((p + i) % rate % 8 : Nat) : Int))) = b2E rate a (p + i) := rfl
  rw [c3, hset]
  rfl
theorem b2e : ∀ x r, N9 x = some r → ∃ N, P4 N x = some r := by
 refine d9 (ks := y0) (rs := z4) fun x hw hq => ?_
 obtain ⟨⟨(a : List Int), (r : Int), (p : Int), u⟩, (out : List Int), v⟩ := x
 obtain ⟨ha, _, _⟩ := d3a.1 hw.1
 have hl : out.length ≤ maxLen := hw.2.1.1
 obtain ⟨hr, hp0, hp1⟩ : (8 ≤ r ∧ r ≤ 200) ∧ 0 ≤ p ∧ p ≤ r := hq
 obtain ⟨rate, rfl⟩ : ∃ m : Nat, r = m := ⟨r.toNat, by omega⟩
 obtain ⟨q, rfl⟩ : ∃ m : Nat, p = m := ⟨p.toNat, by omega⟩
 generalize hn : out.length = n at *
 refine ⟨n + 1, ?_⟩
 unfold P4
 dsimp only
 rw [hn]
 refine (i8 (F := n7 (n + 1)) (s := fun i => (n, (n : Int), (i : Int), (V9 rate a (q + i)).1, (rate : Int), ((V9 rate a (q + i)).2 : Int), n, part (fun k => b2E rate a (q + k)) i out, ()))
  (y := ((V9 rate a (q + n)).1, (rate : Int), ((V9 rate a (q + n)).2 : Int), n, (List.range n).map (fun k => b2E rate a (q + k)), ())) n ?_ ?_ ?_ (n + 1) (by omega)).trans ?_
 ·rw [Nat.add_zero, b8w a (by omega) (by omega), b6H]
  rfl
 ·exact fun i hi kn => d0d ha (by omega) hn hl hi _ kn _
 ·intro kn
  unfold n7
  dsimp only
  rw [if_neg (by omega), B7 hn]
 ·dsimp only
  rw [Int.toNat_natCast, Int.toNat_natCast]
theorem b8O {a : List Int} (h : u64s 25 a) (p : Nat) (x : Int) : u64s 25 (d3i a p x) := rows.set h (d3c _ _)
def d38 (rate : Nat) (s : List Int × Nat) : Prop := u64s 25 s.1 ∧ s.2 < rate
theorem d4v {rate : Nat} {s : List Int × Nat} (h : d38 rate s) (x : Int) : d38 rate (c6O rate s x) := by
 have h1 := h.2
 unfold c6O
 split
 ·exact ⟨c7L (b8O h.1 _ _), by show 0 < rate; omega⟩
 ·exact ⟨b8O h.1 _ _, by show s.2 + 1 < rate; omega⟩
theorem c0U {rate : Nat} : ∀ {s : List Int × Nat} (l : List Int), d38 rate s → d38 rate (b0z rate s l)
 | s, [], h => h
 | s, x :: l, h => c0U l (d4v h x)
theorem c0T (rate : Nat) (s : List Int × Nat) (l m : List Int) : b0z rate s (l ++ m) = b0z rate (b0z rate s l) m := by simp [b0z, List.foldl_append]
theorem d3Q (rate : Nat) (s : List Int × Nat) (x : Int) : b0z rate s [x] = c6O rate s x := rfl
theorem d1f {a : List Int} {r : Int} {p : Nat} {x : Int} (h : u64s 25 a) (hr : b5J r) (hp : p < 200) (hx : 0 ≤ x ∧ x ≤ 255) : D5 ((a, r, (p : Int), ()), x, ()) = some (d3i a p x, r, (p : Int), ()) := by
 have hr' : 8 ≤ r ∧ r ≤ 200 := hr
 have := d8 (ks := D0) (rs := D1) (x := ((a, r, (p : Int), ()), x, ())) (Q := fun x => 0 ≤ x.1.2.2.1 ∧ x.1.2.2.1 < 200) (f := fun x => (d3i x.1.1 x.1.2.2.1.toNat x.2.1, x.1.2.1, x.1.2.2.1, ()))
  ⟨d3a.2 ⟨h, by omega, by omega⟩, U8.2 hx, trivial⟩ ⟨by show (0 : Int) ≤ p; omega, by show (p : Int) < 200; omega⟩
 exact this
theorem d21 {rate : Nat} {e np i : Int} {parts : List (List Int)} {l : List Int} {s : List Int × Nat} {j : Nat} (hs : d38 rate s) (hr : 8 ≤ rate ∧ rate ≤ 200) (hl : ∀ z ∈ l, 0 ≤ z ∧ z ≤ 255) (hm : l.length ≤ maxLen) (hj : j < l.length)
  {β : Type} (N : Nat) (kn : _ → Option β) (k : _ → Option β) :
  j7 N β (e, parts, np, i, l, (l.length : Int), (j : Int), (b0z rate s (l.take j)).1, (rate : Int), ((b0z rate s (l.take j)).2 : Int), ()) kn k
  = kn (e, parts, np, i, l, (l.length : Int), ((j + 1 : Nat) : Int), (b0z rate s (l.take (j + 1))).1, (rate : Int), ((b0z rate s (l.take (j + 1))).2 : Int), ()) := by
 have hm' : maxLen ≤ 9223372036854775807 := by decide
 have hS := c0U (l.take j) hs
 have e1 : b0z rate s (l.take (j + 1)) = c6O rate (b0z rate s (l.take j)) (l.getD j 0) := by
  rw [List.take_succ_eq_append_getElem hj, c0T, d3Q, List.getD_eq_getElem?_getD, List.getElem?_eq_getElem hj]; rfl
 have hz := hl _ (a5D hj)
 generalize b0z rate s (l.take j) = S at *
 have h2 := hS.2
 unfold j7
 dsimp only
 rw [if_pos (by omega), if_pos (by omega), if_pos (by omega), Int.toNat_natCast, d1f hS.1 ⟨by omega, by omega⟩ (by omega) hz, Option.bind_some]
 dsimp only
 rw [e1, c7 (x := (S.2 : Int) + 1) (by omega) (by omega), c7 (by omega) (by omega)]
 unfold c6O
 by_cases h : S.2 + 1 = rate
 ·rw [if_pos (by omega), c63 (b8O hS.1 _ _), Option.bind_some, if_pos h]
  rfl
 ·rw [if_neg (by omega), if_neg h]
  rfl
theorem d22 {rate : Nat} {e np i : Int} {parts : List (List Int)} {l : List Int} {s : List Int × Nat} (hs : d38 rate s) (hr : 8 ≤ rate ∧ rate ≤ 200) (hl : ∀ z ∈ l, 0 ≤ z ∧ z ≤ 255) (hm : l.length ≤ maxLen)
  {β : Type} {N : Nat} (hN : l.length < N) {k : _ → Option β} :
  m7 (j7 N) N (e, parts, np, i, l, (l.length : Int), (0 : Int), s.1, (rate : Int), (s.2 : Int), ()) k = k (e, parts, np, i, (b0z rate s l).1, (rate : Int), ((b0z rate s l).2 : Int), ()) := by
 refine i8 (F := j7 N) (s := fun j => (e, parts, np, i, l, (l.length : Int), (j : Int), (b0z rate s (l.take j)).1, (rate : Int), ((b0z rate s (l.take j)).2 : Int), ()))
  (y := (e, parts, np, i, (b0z rate s l).1, (rate : Int), ((b0z rate s l).2 : Int), ())) l.length ?_ ?_ ?_ N hN
 ·rfl
 ·exact fun j hj kn => d21 hs hr hl hm hj N kn k
 ·intro kn
  unfold j7
  dsimp only
  rw [if_neg (by omega), List.take_length]
def a0Y (l : List (List Int)) : Prop := l.length ≤ maxLen ∧ ∀ zs ∈ l, zs.length ≤ maxLen ∧ ∀ z ∈ zs, 0 ≤ z ∧ z ≤ 255
theorem a2i {l : List (List Int)} : Kd.wf (.sls (.int .u8)) l ↔ a0Y l := by simp [Kd.wf, a0Y, U8]
theorem d2g {zs : List Int} : ∀ {l : List (List Int)}, zs ∈ l → zs.length ≤ l.flatten.length
 | x :: l, h => by
  rcases List.mem_cons.1 h with rfl | h
  ·simp
  ·have := d2g h; simp only [List.flatten_cons, List.length_append]; omega
theorem d0t {rate : Nat} {e : Int} {parts : List (List Int)} {s : List Int × Nat} {i : Nat} (hs : d38 rate s) (hr : 8 ≤ rate ∧ rate ≤ 200) (hp : a0Y parts) (hi : i < parts.length)
  {β : Type} {N : Nat} (hN : parts.flatten.length < N) (kn : _ → Option β) (k : _ → Option β) :
  n8 N β (e, parts, (parts.length : Int), (i : Int), (b0z rate s (parts.take i).flatten).1, (rate : Int), ((b0z rate s (parts.take i).flatten).2 : Int), ()) kn k
  = kn (e, parts, (parts.length : Int), ((i + 1 : Nat) : Int), (b0z rate s (parts.take (i + 1)).flatten).1, (rate : Int), ((b0z rate s (parts.take (i + 1)).flatten).2 : Int), ()) := by
 have hm' : maxLen ≤ 9223372036854775807 := by decide
 have hl := hp.1
 have hS := c0U (parts.take i).flatten hs
 have hmem : parts.getD i [] ∈ parts := by
  rw [List.getD_eq_getElem?_getD, List.getElem?_eq_getElem hi]; simp
 have e1 : b0z rate s (parts.take (i + 1)).flatten = b0z rate (b0z rate s (parts.take i).flatten) (parts.getD i []) := by
  rw [List.take_succ_eq_append_getElem hi, List.flatten_append, c0T, List.getD_eq_getElem?_getD, List.getElem?_eq_getElem hi]
  simp
 have hlen := d2g hmem
 obtain ⟨q1, q2⟩ := hp.2 _ hmem
 rw [e1]
 generalize b0z rate s (parts.take i).flatten = S at *
 unfold n8
 dsimp only
 rw [if_pos (by omega), if_pos (by omega), if_pos (by omega), Int.toNat_natCast]
 rw [d22 hS hr q2 q1 (by omega)]
 dsimp only
 rw [c7 (by omega) (by omega)]
 rfl
theorem b2f : ∀ x r, O0 x = some r → ∃ N, P5 N x = some r := by
 refine d9 (ks := z6) (rs := z7) fun x hw hq => ?_
 obtain ⟨⟨(a : List Int), (r : Int), (p : Int), u⟩, (e : Int), (parts : List (List Int)), v⟩ := x
 obtain ⟨ha, _, _⟩ := d3a.1 hw.1
 have he : 0 ≤ e ∧ e ≤ 255 := U8.1 hw.2.1
 have hp : a0Y parts := a2i.1 hw.2.2.1
 obtain ⟨hr, hp0, hp1⟩ : (8 ≤ r ∧ r ≤ 200) ∧ 0 ≤ p ∧ p < r := hq
 obtain ⟨rate, rfl⟩ : ∃ m : Nat, r = m := ⟨r.toNat, by omega⟩
 obtain ⟨q, rfl⟩ : ∃ m : Nat, p = m := ⟨p.toNat, by omega⟩
 have hs : d38 rate (a, q) := ⟨ha, by show q < rate; omega⟩
 have hr' : 8 ≤ rate ∧ rate ≤ 200 := by omega
 refine ⟨parts.length + parts.flatten.length + 1, ?_⟩
 unfold P5
 dsimp only
 refine (i8 (F := n8 (parts.length + parts.flatten.length + 1)) (s := fun i => (e, parts, (parts.length : Int), (i : Int), (b0z rate (a, q) (parts.take i).flatten).1, (rate : Int), ((b0z rate (a, q) (parts.take i).flatten).2 : Int), ()))
  (y := (e, (b0z rate (a, q) parts.flatten).1, (rate : Int), ((b0z rate (a, q) parts.flatten).2 : Int), ())) parts.length ?_ ?_ ?_ _ (by omega)).trans ?_
 ·rfl
 ·exact fun i hi kn => d0t hs hr' hp hi (by omega) kn _
 ·intro kn
  unfold n8
  dsimp only
  rw [if_neg (by omega), List.take_length]
 ·have hS := c0U parts.flatten hs
  dsimp only
  rw [Int.toNat_natCast, Int.toNat_natCast]
  unfold Q6
  generalize b0z rate (a, q) parts.flatten = S at *
  have h2 := hS.2
  rw [d1f hS.1 ⟨by omega, by omega⟩ (by omega) he, Option.bind_some]
  dsimp only
  rw [c7 (by omega) (by omega), show (rate : Int) - 1 = ((rate - 1 : Nat) : Int) by omega, d1f (b8O hS.1 _ _) ⟨by omega, by omega⟩ (by omega) (by omega), Option.bind_some]
  dsimp only
  rw [c63 (b8O (b8O hS.1 _ _) _ _), Option.bind_some]
theorem d8z : u64s 25 z25 := rows.zero (by omega) 25
theorem d3o {rate : Nat} {s : List Int × Nat} (hs : d38 rate s) (e : Int) (l : List Int) : u64s 25 (Q6 rate e s l) := c7L (b8O (b8O (c0U l hs).1 _ _) _ _)
theorem d3z {a : List Int} {rate p : Nat} {e : Int} {parts : List (List Int)} (ha : u64s 25 a) (hr : 8 ≤ rate ∧ rate ≤ 200) (hp : p < rate) (he : 0 ≤ e ∧ e ≤ 255) (hl : a0Y parts) :
  O0 ((a, (rate : Int), (p : Int), ()), e, parts, ()) = some (Q6 rate e (a, p) parts.flatten, (rate : Int), 0, ()) := by
 have := d8 (ks := z6) (rs := z7) (x := ((a, (rate : Int), (p : Int), ()), e, parts, ())) (Q := fun x => b5J x.1.2.1 ∧ 0 ≤ x.1.2.2.1 ∧ x.1.2.2.1 < x.1.2.1) (f := fun x => (Q6 x.1.2.1.toNat x.2.1 (x.1.1, x.1.2.2.1.toNat) x.2.2.1.flatten, x.1.2.1, 0, ()))
  ⟨d3a.2 ⟨ha, by omega, by omega⟩, U8.2 he, a2i.2 hl, trivial⟩ ⟨⟨by show (8 : Int) ≤ rate; omega, by show (rate : Int) ≤ 200; omega⟩, by show (0 : Int) ≤ p; omega, by show (p : Int) < rate; omega⟩
 exact this
theorem b9W : ∀ x r, X8 x = some r → ∃ N, a2f N x = some r := by
 refine d9 (ks := M1) (rs := M2) fun x hw hq => ⟨0, ?_⟩
 obtain ⟨(r : Int), (parts : List (List Int)), u⟩ := x
 have hp : a0Y parts := a2i.1 hw.2.1
 have hr : 8 ≤ r ∧ r ≤ 200 := hq
 obtain ⟨rate, rfl⟩ : ∃ m : Nat, r = m := ⟨r.toNat, by omega⟩
 have e := d3z (e := 31) (p := 0) d8z (by omega) (show 0 < rate by omega) (by omega) hp
 unfold a2f
 refine (congrArg (fun o => Option.bind o _) e).trans ?_
 rw [Option.bind_some]
 rfl
theorem c25 {rate : Nat} {parts : List (List Int)} (hr : 8 ≤ rate ∧ rate ≤ 200) (hl : a0Y parts) : X8 ((rate : Int), parts, ()) = some (true, Q6 rate 31 (z25, 0) parts.flatten, (rate : Int), 0, 0, ()) := by
 have := d8 (ks := M1) (rs := M2) (x := ((rate : Int), parts, ())) (Q := fun x => b5J x.1) (f := fun x => (true, Q6 x.1.toNat 31 (z25, 0) x.2.1.flatten, x.1, 0, 0, ()))
  ⟨u2.2 (by omega), a2i.2 hl, trivial⟩ ⟨by show (8 : Int) ≤ rate; omega, by show (rate : Int) ≤ 200; omega⟩
 exact this
theorem b8l : ∀ x r, D4 x = some r → ∃ N, a1d N x = some r := by
 refine d9 (ks := I0) (rs := I1) fun x hw hq => ⟨0, ?_⟩
 obtain ⟨(parts : List (List Int)), u⟩ := x
 have hp : a0Y parts := a2i.1 hw.1
 unfold a1d
 refine (congrArg (fun o => Option.bind o _) (c25 (rate := 168) (by omega) hp)).trans ?_
 rw [Option.bind_some]
 rfl
theorem c0q {parts : List (List Int)} (hl : a0Y parts) : D4 (parts, ()) = some (true, Q6 168 31 (z25, 0) parts.flatten, 168, 0, 0, ()) :=
 d8 (ks := I0) (rs := I1) (x := (parts, ())) ⟨a2i.2 hl, trivial⟩ trivial
theorem d8y {b : Bool} {a : List Int} {r p c : Int} : c4Y [.bool, .xs (.int .u64) 25, .int .i64, .int .i64, .int .i64] (b, a, r, p, c, ()) ↔ u64s 25 a ∧ (-9223372036854775808 ≤ r ∧ r ≤ 9223372036854775807) ∧ (-9223372036854775808 ≤ p ∧ p ≤ 9223372036854775807) ∧ (-9223372036854775808 ≤ c ∧ c ≤ 9223372036854775807) := by
 have h1 : FK.wf (.xs (.int .u64) 25) a ↔ u64s 25 a := by simp [FK.wf, u64s, rows, b5I]
 have h2 : FK.wf (.int .i64) r ↔ _ := u2
 have h3 : FK.wf (.int .i64) p ↔ _ := u2
 have h4 : FK.wf (.int .i64) c ↔ _ := u2
 have h5 : FK.wf .bool b ↔ True := by simp [FK.wf]
 simp only [c4Y, h1, h2, h3, h4, h5, and_true, true_and]
theorem d3v {a out : List Int} {rate p : Nat} (ha : u64s 25 a) (hr : 8 ≤ rate ∧ rate ≤ 200) (hp : p ≤ rate) (ho : out.length ≤ maxLen ∧ ∀ z ∈ out, 0 ≤ z ∧ z ≤ 255) :
  N9 ((a, (rate : Int), (p : Int), ()), out, ()) = some (((V9 rate a (p + out.length)).1, (rate : Int), ((V9 rate a (p + out.length)).2 : Int), ()), (List.range out.length).map fun k => b2E rate a (p + k)) := by
 have := d8 (ks := y0) (rs := z4) (x := ((a, (rate : Int), (p : Int), ()), out, ())) (Q := fun x => b5J x.1.2.1 ∧ 0 ≤ x.1.2.2.1 ∧ x.1.2.2.1 ≤ x.1.2.1)
  (f := fun x => (((V9 x.1.2.1.toNat x.1.1 (x.1.2.2.1.toNat + x.2.1.length)).1, x.1.2.1, ((V9 x.1.2.1.toNat x.1.1 (x.1.2.2.1.toNat + x.2.1.length)).2 : Int), ()), (List.range x.2.1.length).map fun k => b2E x.1.2.1.toNat x.1.1 (x.1.2.2.1.toNat + k)))
  ⟨d3a.2 ⟨ha, by omega, by omega⟩, ⟨ho.1, fun z hz => U8.2 (ho.2 z hz)⟩, trivial⟩ ⟨⟨by show (8 : Int) ≤ rate; omega, by show (rate : Int) ≤ 200; omega⟩, by show (0 : Int) ≤ p; omega, by show (p : Int) ≤ rate; omega⟩
 exact this
theorem d5E {a : List Int} {r p c : Int} (h : c4Y [.bool, .xs (.int .u64) 25, .int .i64, .int .i64, .int .i64] (true, a, r, p, c, ())) : a06 ((true, a, r, p, c, ()), ()) = some (false, (true, a, r, p, c, ())) :=
 d8 (ks := I6) (rs := I7) (x := ((true, a, r, p, c, ()), ())) ⟨h, trivial⟩ trivial
theorem d1c {n : Int} (h : 0 ≤ n ∧ n ≤ 1048576) : a2H (n, ()) = some 0 := by
 have := d8 (ks := a6q) (rs := a6r) (Q := fun _ => True) (f := fun x => d7A x.1) (x := (n, ())) ⟨u2.2 (by omega), trivial⟩ trivial
 refine this.trans ?_
 show some (d7A n) = _
 unfold d7A
 rw [if_neg (by omega), if_neg (by omega)]
theorem b8n : ∀ x r, o0 x = some r → ∃ N, a1f N x = some r := by
 refine d9 (ks := I4) (rs := I5) fun x hw hq => ⟨0, ?_⟩
 obtain ⟨⟨(b : Bool), (a : List Int), (r : Int), (p : Int), (c : Int), u⟩, (n : Int), v⟩ := x
 obtain ⟨hb, hn0, hn1, hr, hp0, hp1⟩ : b = true ∧ 0 ≤ n ∧ n ≤ 1048576 ∧ (8 ≤ r ∧ r ≤ 200) ∧ 0 ≤ p ∧ p ≤ r := hq
 subst hb
 have hx := d8y.1 hw.1
 obtain ⟨rate, rfl⟩ : ∃ m : Nat, r = m := ⟨r.toNat, by omega⟩
 obtain ⟨q, rfl⟩ : ∃ m : Nat, p = m := ⟨p.toNat, by omega⟩
 obtain ⟨m, rfl⟩ : ∃ m : Nat, n = m := ⟨n.toNat, by omega⟩
 have hM : 1048576 ≤ maxLen := by decide
 have hg := d3v (a := a) (out := List.replicate m 0) (rate := rate) (p := q) hx.1 (by omega) (by omega) ⟨by simp; omega, fun z hz => by rw [List.eq_of_mem_replicate hz]; omega⟩
 rw [List.length_replicate] at hg
 unfold a1f
 refine (congrArg (fun o => Option.bind o _) (d5E hw.1)).trans ?_
 rw [Option.bind_some, if_neg (by simp)]
 dsimp only
 rw [d1c (by omega), Option.bind_some, if_neg (by omega), if_pos (by omega), if_pos rfl, if_pos (by omega), Int.toNat_natCast, hg, Option.bind_some]
 dsimp only
 rw [if_pos (by simp)]
 simp only [Int.toNat_natCast, decide_true]
theorem c1N (a : List Int) (m : Nat) : ∀ n : Nat, a9Y n (a9Y m a) = a9Y (m + n) a
 | 0 => rfl
 | n + 1 => by rw [a9Y, c1N a m n]; rfl
theorem d6u {rate : Nat} (hr : 0 < rate) (a : List Int) (p k : Nat) : b2E rate (V9 rate a p).1 ((V9 rate a p).2 + k) = b2E rate a (p + k) := by
 unfold b2E V9
 dsimp only
 have e := Nat.div_add_mod (p - 1) rate
 generalize (p - 1) / rate = q at *
 have h : p + k = (p - q * rate + k) + rate * q := by
  rw [Nat.mul_comm] at e
  have : q * rate ≤ p := by omega
  rw [Nat.mul_comm rate q]; omega
 rw [h, Nat.add_mul_div_left _ _ hr, Nat.add_mul_mod_self_left, c1N, Nat.add_comm q]
theorem d6Q {rate : Nat} (hr : 0 < rate) (a : List Int) (p k : Nat) (hk : 0 < k) : V9 rate (V9 rate a p).1 ((V9 rate a p).2 + k) = V9 rate a (p + k) := by
 unfold V9
 dsimp only
 have e := Nat.div_add_mod (p - 1) rate
 generalize (p - 1) / rate = q at *
 have h0 : q * rate ≤ p := by rw [Nat.mul_comm] at e; omega
 have h : p + k - 1 = (p - q * rate + k - 1) + rate * q := by
  rw [Nat.mul_comm rate q]; omega
 rw [h, Nat.add_mul_div_left _ _ hr, c1N, Nat.add_comm q, Nat.add_mul]
 congr 1
 omega
abbrev z256 : List Int := List.replicate 256 0
theorem d2v (rate : Nat) (a : List Int) (p : Nat) : 0 ≤ b2E rate a p ∧ b2E rate a p ≤ 255 := by
 unfold b2E c8E
 simp [IntKind.wrap, IntKind.signed, IntKind.bits]; omega
theorem d6P {rate : Nat} (hr : 0 < rate) {a : List Int} (ha : u64s 25 a) (p : Nat) : u64s 25 (V9 rate a p).1 ∧ (V9 rate a p).2 ≤ rate := by
 refine ⟨c7M ha _, ?_⟩
 unfold V9
 have e := Nat.div_add_mod (p - 1) rate
 have e1 := Nat.mod_lt (p - 1) hr
 rw [Nat.mul_comm] at e
 show p - (p - 1) / rate * rate ≤ rate
 omega
theorem c4K (rate : Nat) (e : Int) (l : List Int) (n : Nat) : (a0d rate e l n).length = n := by simp [a0d]
theorem d0K (l : List Int) (p : Nat) : 0 ≤ shk l p ∧ shk l p ≤ 255 := d2v 168 _ p
theorem d2N (l : List Int) (p : Nat) : 0 ≤ shb l p ∧ shb l p ≤ 255 := d2v 136 _ p
theorem d8l (rate : Nat) (e : Int) (l : List Int) (n : Nat) : ∀ z ∈ a0d rate e l n, 0 ≤ z ∧ z ≤ 255 := by
 intro z hz
 obtain ⟨p, _, rfl⟩ := List.mem_map.1 hz
 exact d2v rate _ p
theorem d07 {rate : Nat} (hr : 8 ≤ rate ∧ rate ≤ 200) {A : List Int} {P n : Nat} (hA : u64s 25 A) (hn : n ≤ 1048576) {c : Int} (hc : 0 ≤ c ∧ c ≤ 1000000) : o0 ((true, (V9 rate A P).1, (rate : Int), ((V9 rate A P).2 : Int), c, ()), (n : Int), ())
  = some ((List.range n).map (fun k => b2E rate A (P + k)), 0, (true, (V9 rate A (P + n)).1, (rate : Int), ((V9 rate A (P + n)).2 : Int), c + n, ())) := by
 obtain ⟨h1, h2⟩ := d6P (rate := rate) (by omega) hA P
 have := d8 (ks := I4) (rs := I5) (x := ((true, (V9 rate A P).1, (rate : Int), ((V9 rate A P).2 : Int), c, ()), (n : Int), ()))
  (Q := fun x => x.1.1 = true ∧ 0 ≤ x.2.1 ∧ x.2.1 ≤ 1048576 ∧ b5J x.1.2.2.1 ∧ 0 ≤ x.1.2.2.2.1 ∧ x.1.2.2.2.1 ≤ x.1.2.2.1)
  (f := fun x => ((List.range x.2.1.toNat).map (fun k => b2E x.1.2.2.1.toNat x.1.2.1 (x.1.2.2.2.1.toNat + k)), 0,
  (true, (V9 x.1.2.2.1.toNat x.1.2.1 (x.1.2.2.2.1.toNat + x.2.1.toNat)).1, x.1.2.2.1, ((V9 x.1.2.2.1.toNat x.1.2.1 (x.1.2.2.2.1.toNat + x.2.1.toNat)).2 : Int), IntKind.i64.wrap (x.1.2.2.2.2.1 + x.2.1), ())))
  ⟨d8y.2 ⟨h1, by omega, by omega, by omega⟩, (u2 (n := (n : Int))).2 (by omega), trivial⟩ ⟨rfl, by show (0 : Int) ≤ n; omega, by show (n : Int) ≤ 1048576; omega, ⟨by show (8 : Int) ≤ rate; omega, by show (rate : Int) ≤ 200; omega⟩, by show (0 : Int) ≤ ((V9 rate A P).2 : Int); omega, by show ((V9 rate A P).2 : Int) ≤ rate; omega⟩
 refine Eq.trans this ?_
 have e : ∀ k, b2E rate (V9 rate A P).1 ((V9 rate A P).2 + k) = b2E rate A (P + k) := d6u (by omega) A P
 show some ((List.range (n : Int).toNat).map (fun k => b2E (rate : Int).toNat (V9 rate A P).1 (((V9 rate A P).2 : Int).toNat + k)), (0 : Int), (true, (V9 (rate : Int).toNat (V9 rate A P).1 (((V9 rate A P).2 : Int).toNat + (n : Int).toNat)).1, (rate : Int), ((V9 (rate : Int).toNat (V9 rate A P).1 (((V9 rate A P).2 : Int).toNat + (n : Int).toNat)).2 : Int), IntKind.i64.wrap (c + n), ())) = _
 simp only [Int.toNat_natCast, e]
 rw [c7 (by omega) (by omega)]
 by_cases hn0 : n = 0
 ·subst hn0
  simp only [Nat.add_zero]
  have : V9 rate (V9 rate A P).1 (V9 rate A P).2 = V9 rate A P := by
   have h := Nat.div_eq_of_lt (show (V9 rate A P).2 - 1 < rate by omega)
   show (a9Y (((V9 rate A P).2 - 1) / rate) (V9 rate A P).1, (V9 rate A P).2 - ((V9 rate A P).2 - 1) / rate * rate) = _
   rw [h]
   simp [a9Y]
  rw [this]
 ·rw [d6Q (rate := rate) (by omega) A P n (by omega)]
theorem b8m : ∀ x r, R7 x = some r → ∃ N, a1e N x = some r := by
 refine d9 (ks := I2) (rs := I3) fun x hw hq => ⟨0, ?_⟩
 obtain ⟨(parts : List (List Int)), u⟩ := x
 have hp : a0Y parts := a2i.1 hw.1
 unfold a1e
 refine (congrArg (fun o => Option.bind o _) (c25 (rate := 136) (by omega) hp)).trans ?_
 rw [Option.bind_some]
 rfl
theorem c61 {parts : List (List Int)} (hl : a0Y parts) : R7 (parts, ()) = some (true, Q6 136 31 (z25, 0) parts.flatten, 136, 0, 0, ()) :=
 d8 (ks := I2) (rs := I3) (x := (parts, ())) ⟨a2i.2 hl, trivial⟩ trivial
theorem c46 (rate : Nat) (hr : 0 < rate) (e : Int) (l : List Int) : u64s 25 (Q6 rate e (z25, 0) l) := d3o ⟨d8z, by show 0 < rate; omega⟩ _ _
theorem c8u {rate : Nat} (hr : 8 ≤ rate ∧ rate ≤ 200) {l : List Int} {n : Nat} (hn : n ≤ 1048576) : ∃ y, o0 ((true, Q6 rate 31 (z25, 0) l, (rate : Int), 0, 0, ()), (n : Int), ()) = some (a0d rate 31 l n, 0, y) := by
 have h := d07 hr (P := 0) (n := n) (c46 rate (by omega) 31 l) hn (c := 0) (by omega)
 have hst : V9 rate (Q6 rate 31 (z25, 0) l) 0 = (Q6 rate 31 (z25, 0) l, 0) := b8w _ (by omega) (by omega)
 rw [hst] at h
 refine ⟨(true, (V9 rate (Q6 rate 31 (z25, 0) l) (0 + n)).1, (rate : Int), ((V9 rate (Q6 rate 31 (z25, 0) l) (0 + n)).2 : Int), 0 + (n : Int), ()), h.trans ?_⟩
 simp only [Nat.zero_add]
 rfl
theorem c2U : ∀ x r, v3 x = some r → ∃ N, a4u N x = some r := by
 refine d9 (ks := S7) (rs := S8) fun x hw hq => ⟨0, ?_⟩
 obtain ⟨(b : Int), (n : Int), (parts : List (List Int)), u⟩ := x
 have hp : a0Y parts := a2i.1 hw.2.2.1
 obtain ⟨hb, hn0, hn1⟩ : (b = 128 ∨ b = 256) ∧ 0 ≤ n ∧ n ≤ 1048576 := hq
 obtain ⟨m, rfl⟩ : ∃ m : Nat, n = m := ⟨n.toNat, by omega⟩
 unfold a4u
 dsimp only
 rcases hb with rfl | rfl
 ·obtain ⟨y, e⟩ := c8u (rate := 168) (by omega) (l := parts.flatten) (n := m) (by omega)
  rw [if_neg (by simp), d1c (by omega), Option.bind_some, if_neg (by simp), if_pos rfl, c0q hp, Option.bind_some]
  refine (congrArg (fun o => Option.bind o _) e).trans ?_
  rfl
 ·obtain ⟨y, e⟩ := c8u (rate := 136) (by omega) (l := parts.flatten) (n := m) (by omega)
  rw [if_pos (by omega), if_neg (by simp), d1c (by omega), Option.bind_some, if_neg (by simp), if_neg (by omega), c61 hp, Option.bind_some]
  refine (congrArg (fun o => Option.bind o _) e).trans ?_
  rfl
theorem c8v {b : Int} (hb : b = 128 ∨ b = 256) {n : Nat} (hn : n ≤ 1048576) {parts : List (List Int)} (hl : a0Y parts) : v3 (b, (n : Int), parts, ()) = some (a0d (if b = 128 then 168 else 136) 31 parts.flatten n, 0) := by
 have := d8 (ks := S7) (rs := S8) (x := (b, (n : Int), parts, ())) (Q := fun x => (x.1 = 128 ∨ x.1 = 256) ∧ 0 ≤ x.2.1 ∧ x.2.1 ≤ 1048576) (f := fun x => (a0d (if x.1 = 128 then 168 else 136) 31 x.2.2.1.flatten x.2.1.toNat, 0))
  ⟨u2.2 (by show _ ≤ b ∧ b ≤ _; omega), (u2 (n := (n : Int))).2 (by omega), a2i.2 hl, trivial⟩ ⟨hb, by show (0 : Int) ≤ n; omega, by show (n : Int) ≤ 1048576; omega⟩
 exact this
theorem c9h {l : List Int} (hl : l.length ≤ 4294967000 ∧ ∀ z ∈ l, 0 ≤ z ∧ z ≤ 255) : a0Y [l] := by
 have hM : 4294967296 ≤ maxLen := by decide
 exact ⟨by simp only [List.length_cons, List.length_nil]; omega, fun zs hz => by rw [List.mem_singleton.1 hz]; exact ⟨by omega, hl.2⟩⟩
theorem d7E (l : List Int) : [l].flatten = l := by simp
end Go.Ax.TryP
