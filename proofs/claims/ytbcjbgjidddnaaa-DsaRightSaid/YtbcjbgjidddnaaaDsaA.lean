/- A part of the proof: DsT, DsI, DkS1, DkP1, DkQ1, DkS2, DkP2, DkQ2. -/
import Derived.Test.YtbcjbgjidddnaaaAxD
import Derived.Test.YtbcjbgjidddnaaaProg
set_option linter.unusedVariables false
namespace Go.Ax.TryP
open Go.Proofs
abbrev U : TV := .one .any
abbrev V : HV := .any
abbrev b8 : CK := .int .u8
abbrev b16 : CK := .int .u16
abbrev b32 : CK := .int .i32
abbrev b64 : CK := .int .i64
theorem mix : Try.prog.follows .mixedOrders = true := by kernel_rfl
noncomputable def ty2 : TyI where
 td := .int .i64
 size := 1
 bytes := 8
 zero := [.xs b64 1 [0]]
theorem a9v : TyOk Try.prog 2 ty2 :=
 TyOk.of (f := Try.t2) (z := (Try.t2.zero).getD .nilIface) (cs := (a1d ty2.zero).getD []) Try.underlying2 (by kernel_rfl) (by kernel_rfl) ⟨by kernel_rfl, by kernel_rfl⟩ (by kernel_rfl) (by kernel_rfl) (by kernel_rfl) (by kernel_rfl) (by kernel_rfl)
noncomputable def ty3 : TyI where
 td := .int .i64
 size := 1
 bytes := 8
 zero := [.xs b64 1 [0]]
theorem a5T : TyOk Try.prog 3 ty3 :=
 TyOk.of (f := Try.t3) (z := (Try.t3.zero).getD .nilIface) (cs := (a1d ty3.zero).getD []) Try.underlying3 (by kernel_rfl) (by kernel_rfl) ⟨by kernel_rfl, by kernel_rfl⟩ (by kernel_rfl) (by kernel_rfl) (by kernel_rfl) (by kernel_rfl) (by kernel_rfl)
noncomputable def ty4 : TyI where
 td := .bool
 size := 1
 bytes := 1
 zero := [.xs .bool 1 [0]]
theorem c2R : TyOk Try.prog 4 ty4 :=
 TyOk.of (f := Try.t4) (z := (Try.t4.zero).getD .nilIface) (cs := (a1d ty4.zero).getD []) Try.underlying4 (by kernel_rfl) (by kernel_rfl) ⟨by kernel_rfl, by kernel_rfl⟩ (by kernel_rfl) (by kernel_rfl) (by kernel_rfl) (by kernel_rfl) (by kernel_rfl)
noncomputable def ty5 : TyI where
 td := .int .u8
 size := 1
 bytes := 1
 zero := [.xs b8 1 [0]]
theorem Z8 : TyOk Try.prog 5 ty5 :=
 TyOk.of (f := Try.t5) (z := (Try.t5.zero).getD .nilIface) (cs := (a1d ty5.zero).getD []) Try.underlying5 (by kernel_rfl) (by kernel_rfl) ⟨by kernel_rfl, by kernel_rfl⟩ (by kernel_rfl) (by kernel_rfl) (by kernel_rfl) (by kernel_rfl) (by kernel_rfl)
noncomputable def ty9 : TyI where
 td := .str
 size := 1
 bytes := 16
 zero := [.one (.str (⟨#[]⟩ : ByteArray))]
theorem d9D : TyOk Try.prog 9 ty9 :=
 TyOk.of (f := Try.t9) (z := (Try.t9.zero).getD .nilIface) (cs := (a1d ty9.zero).getD []) Try.underlying9 (by kernel_rfl) (by kernel_rfl) ⟨by kernel_rfl, by kernel_rfl⟩ (by kernel_rfl) (by kernel_rfl) (by kernel_rfl) (by kernel_rfl) (by kernel_rfl)
noncomputable def ty21 : TyI where
 td := .int .i32
 size := 1
 bytes := 4
 zero := [.xs b32 1 [0]]
theorem u6 : TyOk Try.prog 21 ty21 :=
 TyOk.of (f := Try.t21) (z := (Try.t21.zero).getD .nilIface) (cs := (a1d ty21.zero).getD []) Try.underlying21 (by kernel_rfl) (by kernel_rfl) ⟨by kernel_rfl, by kernel_rfl⟩ (by kernel_rfl) (by kernel_rfl) (by kernel_rfl) (by kernel_rfl) (by kernel_rfl)
noncomputable def ty22 : TyI where
 td := .arr 32 5
 size := 32
 bytes := 32
 zero := [.xs b8 32 (List.replicate 32 0)]
theorem c5z : TyOk Try.prog 22 ty22 :=
 TyOk.of (f := Try.t22) (z := (Try.t22.zero).getD .nilIface) (cs := (a1d ty22.zero).getD []) Try.underlying22 (by kernel_rfl) (by kernel_rfl) ⟨by kernel_rfl, by kernel_rfl⟩ (by kernel_rfl) (by kernel_rfl) (by kernel_rfl) (by kernel_rfl) (by kernel_rfl)
noncomputable def ty23 : TyI where
 td := .sl 5
 size := 1
 bytes := 24
 zero := [.one (.nilsl)]
theorem G0 : TyOk Try.prog 23 ty23 :=
 TyOk.of (f := Try.t23) (z := (Try.t23.zero).getD .nilIface) (cs := (a1d ty23.zero).getD []) Try.underlying23 (by kernel_rfl) (by kernel_rfl) ⟨by kernel_rfl, by kernel_rfl⟩ (by kernel_rfl) (by kernel_rfl) (by kernel_rfl) (by kernel_rfl) (by kernel_rfl)
noncomputable def ty26 : TyI where
 td := .int .i64
 size := 1
 bytes := 8
 zero := [.xs b64 1 [0]]
theorem c2Q : TyOk Try.prog 26 ty26 :=
 TyOk.of (f := Try.t26) (z := (Try.t26.zero).getD .nilIface) (cs := (a1d ty26.zero).getD []) Try.underlying26 (by kernel_rfl) (by kernel_rfl) ⟨by kernel_rfl, by kernel_rfl⟩ (by kernel_rfl) (by kernel_rfl) (by kernel_rfl) (by kernel_rfl) (by kernel_rfl)
noncomputable def ty35 : TyI where
 td := .sl 23
 size := 1
 bytes := 24
 zero := [.one (.nilsl)]
theorem a2P : TyOk Try.prog 35 ty35 :=
 TyOk.of (f := Try.t35) (z := (Try.t35.zero).getD .nilIface) (cs := (a1d ty35.zero).getD []) Try.underlying35 (by kernel_rfl) (by kernel_rfl) ⟨by kernel_rfl, by kernel_rfl⟩ (by kernel_rfl) (by kernel_rfl) (by kernel_rfl) (by kernel_rfl) (by kernel_rfl)
noncomputable def ty39 : TyI where
 td := .arr 256 21
 size := 256
 bytes := 1024
 zero := [.xs b32 256 (List.replicate 256 0)]
theorem c9d : TyOk Try.prog 39 ty39 :=
 TyOk.of (f := Try.t39) (z := (Try.t39.zero).getD .nilIface) (cs := (a1d ty39.zero).getD []) Try.underlying39 (by kernel_rfl) (by kernel_rfl) ⟨by kernel_rfl, by kernel_rfl⟩ (by kernel_rfl) (by kernel_rfl) (by kernel_rfl) (by kernel_rfl) (by kernel_rfl)
noncomputable def ty40 : TyI where
 td := .arr 256 21
 size := 256
 bytes := 1024
 zero := [.xs b32 256 (List.replicate 256 0)]
theorem s5 : TyOk Try.prog 40 ty40 :=
 TyOk.of (f := Try.t40) (z := (Try.t40.zero).getD .nilIface) (cs := (a1d ty40.zero).getD []) Try.underlying40 (by kernel_rfl) (by kernel_rfl) ⟨by kernel_rfl, by kernel_rfl⟩ (by kernel_rfl) (by kernel_rfl) (by kernel_rfl) (by kernel_rfl) (by kernel_rfl)
noncomputable def ty42 : TyI where
 td := .arr 5 40
 size := 1280
 bytes := 5120
 zero := [.xs b32 1280 (List.replicate 1280 0)]
theorem b5C : TyOk Try.prog 42 ty42 :=
 TyOk.of (f := Try.t42) (z := (Try.t42.zero).getD .nilIface) (cs := (a1d ty42.zero).getD []) Try.underlying42 (by kernel_rfl) (by kernel_rfl) ⟨by kernel_rfl, by kernel_rfl⟩ (by kernel_rfl) (by kernel_rfl) (by kernel_rfl) (by kernel_rfl) (by kernel_rfl)
noncomputable def ty44 : TyI where
 td := .arr 6 40
 size := 1536
 bytes := 6144
 zero := [.xs b32 1536 (List.replicate 1536 0)]
theorem b5D : TyOk Try.prog 44 ty44 :=
 TyOk.of (f := Try.t44) (z := (Try.t44.zero).getD .nilIface) (cs := (a1d ty44.zero).getD []) Try.underlying44 (by kernel_rfl) (by kernel_rfl) ⟨by kernel_rfl, by kernel_rfl⟩ (by kernel_rfl) (by kernel_rfl) (by kernel_rfl) (by kernel_rfl) (by kernel_rfl)
noncomputable def ty60 : TyI where
 td := .st [(0, 23), (1, 23), (2, 23), (3, 42), (1283, 44), (2819, 44)]
 size := 4355
 bytes := 17480
 zero := [.one (.nilsl), .one (.nilsl), .one (.nilsl), .xs b32 1280 (List.replicate 1280 0), .xs b32 1536 (List.replicate 1536 0), .xs b32 1536 (List.replicate 1536 0)]
theorem c9e : TyOk Try.prog 60 ty60 :=
 TyOk.of (f := Try.t60) (z := (Try.t60.zero).getD .nilIface) (cs := (a1d ty60.zero).getD []) Try.underlying60 (by kernel_rfl) (by kernel_rfl) ⟨by kernel_rfl, by kernel_rfl⟩ (by kernel_rfl) (by kernel_rfl) (by kernel_rfl) (by kernel_rfl) (by kernel_rfl)
noncomputable def ty69 : TyI where
 td := .sl 76
 size := 1
 bytes := 24
 zero := [.one (.nilsl)]
theorem c5A : TyOk Try.prog 69 ty69 :=
 TyOk.of (f := Try.t69) (z := (Try.t69.zero).getD .nilIface) (cs := (a1d ty69.zero).getD []) Try.underlying69 (by kernel_rfl) (by kernel_rfl) ⟨by kernel_rfl, by kernel_rfl⟩ (by kernel_rfl) (by kernel_rfl) (by kernel_rfl) (by kernel_rfl) (by kernel_rfl)
noncomputable def ty73 : TyI where
 td := .int .u64
 size := 1
 bytes := 8
 zero := [.xs (.int .u64) 1 [0]]
theorem d70 : TyOk Try.prog 73 ty73 :=
 TyOk.of (f := Try.t73) (z := (Try.t73.zero).getD .nilIface) (cs := (a1d ty73.zero).getD []) Try.underlying73 (by kernel_rfl) (by kernel_rfl) ⟨by kernel_rfl, by kernel_rfl⟩ (by kernel_rfl) (by kernel_rfl) (by kernel_rfl) (by kernel_rfl) (by kernel_rfl)
noncomputable def ty76 : TyI where
 td := .arr 256 4
 size := 256
 bytes := 256
 zero := [.xs .bool 256 (List.replicate 256 0)]
theorem b8X : TyOk Try.prog 76 ty76 :=
 TyOk.of (f := Try.t76) (z := (Try.t76.zero).getD .nilIface) (cs := (a1d ty76.zero).getD []) Try.underlying76 (by kernel_rfl) (by kernel_rfl) ⟨by kernel_rfl, by kernel_rfl⟩ (by kernel_rfl) (by kernel_rfl) (by kernel_rfl) (by kernel_rfl) (by kernel_rfl)
noncomputable def ty83 : TyI where
 td := .arr 2 5
 size := 2
 bytes := 2
 zero := [.xs b8 2 (List.replicate 2 0)]
theorem d71 : TyOk Try.prog 83 ty83 :=
 TyOk.of (f := Try.t83) (z := (Try.t83.zero).getD .nilIface) (cs := (a1d ty83.zero).getD []) Try.underlying83 (by kernel_rfl) (by kernel_rfl) ⟨by kernel_rfl, by kernel_rfl⟩ (by kernel_rfl) (by kernel_rfl) (by kernel_rfl) (by kernel_rfl) (by kernel_rfl)
noncomputable def ty88 : TyI where
 td := .arr 6 42
 size := 7680
 bytes := 30720
 zero := [.xs b32 7680 (List.replicate 7680 0)]
theorem d33 : TyOk Try.prog 88 ty88 :=
 TyOk.of (f := Try.t88) (z := (Try.t88.zero).getD .nilIface) (cs := (a1d ty88.zero).getD []) Try.underlying88 (by kernel_rfl) (by kernel_rfl) ⟨by kernel_rfl, by kernel_rfl⟩ (by kernel_rfl) (by kernel_rfl) (by kernel_rfl) (by kernel_rfl) (by kernel_rfl)
noncomputable def ty91 : TyI where
 td := .arr 256 2
 size := 256
 bytes := 2048
 zero := [.xs b64 256 (List.replicate 256 0)]
theorem c9f : TyOk Try.prog 91 ty91 :=
 TyOk.of (f := Try.t91) (z := (Try.t91.zero).getD .nilIface) (cs := (a1d ty91.zero).getD []) Try.underlying91 (by kernel_rfl) (by kernel_rfl) ⟨by kernel_rfl, by kernel_rfl⟩ (by kernel_rfl) (by kernel_rfl) (by kernel_rfl) (by kernel_rfl) (by kernel_rfl)
noncomputable def ty102 : TyI where
 td := .ptr 114
 size := 1
 bytes := 8
 zero := [.one (.nilp)]
theorem d5H : TyOk Try.prog 102 ty102 :=
 TyOk.of (f := Try.t102) (z := (Try.t102.zero).getD .nilIface) (cs := (a1d ty102.zero).getD []) Try.underlying102 (by kernel_rfl) (by kernel_rfl) ⟨by kernel_rfl, by kernel_rfl⟩ (by kernel_rfl) (by kernel_rfl) (by kernel_rfl) (by kernel_rfl) (by kernel_rfl)
noncomputable def ty109 : TyI where
 td := .int .u64
 size := 1
 bytes := 8
 zero := [.xs (.int .u64) 1 [0]]
theorem b7p : TyOk Try.prog 109 ty109 :=
 TyOk.of (f := Try.t109) (z := (Try.t109.zero).getD .nilIface) (cs := (a1d ty109.zero).getD []) Try.underlying109 (by kernel_rfl) (by kernel_rfl) ⟨by kernel_rfl, by kernel_rfl⟩ (by kernel_rfl) (by kernel_rfl) (by kernel_rfl) (by kernel_rfl) (by kernel_rfl)
noncomputable def ty110 : TyI where
 td := .arr 25 109
 size := 25
 bytes := 200
 zero := [.xs (.int .u64) 25 (List.replicate 25 0)]
theorem b3c : TyOk Try.prog 110 ty110 :=
 TyOk.of (f := Try.t110) (z := (Try.t110.zero).getD .nilIface) (cs := (a1d ty110.zero).getD []) Try.underlying110 (by kernel_rfl) (by kernel_rfl) ⟨by kernel_rfl, by kernel_rfl⟩ (by kernel_rfl) (by kernel_rfl) (by kernel_rfl) (by kernel_rfl) (by kernel_rfl)
noncomputable def ty112 : TyI where
 td := .st [(0, 110), (25, 3), (26, 3)]
 size := 27
 bytes := 216
 zero := [.xs (.int .u64) 25 (List.replicate 25 0), .xs b64 1 [0], .xs b64 1 [0]]
theorem b7q : TyOk Try.prog 112 ty112 :=
 TyOk.of (f := Try.t112) (z := (Try.t112.zero).getD .nilIface) (cs := (a1d ty112.zero).getD []) Try.underlying112 (by kernel_rfl) (by kernel_rfl) ⟨by kernel_rfl, by kernel_rfl⟩ (by kernel_rfl) (by kernel_rfl) (by kernel_rfl) (by kernel_rfl) (by kernel_rfl)
noncomputable def ty114 : TyI where
 td := .st [(0, 4), (1, 112), (28, 3)]
 size := 29
 bytes := 232
 zero := [.xs .bool 1 [0], .xs (.int .u64) 25 (List.replicate 25 0), .xs b64 1 [0], .xs b64 1 [0], .xs b64 1 [0]]
theorem c5x : TyOk Try.prog 114 ty114 :=
 TyOk.of (f := Try.t114) (z := (Try.t114.zero).getD .nilIface) (cs := (a1d ty114.zero).getD []) Try.underlying114 (by kernel_rfl) (by kernel_rfl) ⟨by kernel_rfl, by kernel_rfl⟩ (by kernel_rfl) (by kernel_rfl) (by kernel_rfl) (by kernel_rfl) (by kernel_rfl)
noncomputable def ty120 : TyI where
 td := .arr 25 3
 size := 25
 bytes := 200
 zero := [.xs b64 25 (List.replicate 25 0)]
theorem c5y : TyOk Try.prog 120 ty120 :=
 TyOk.of (f := Try.t120) (z := (Try.t120.zero).getD .nilIface) (cs := (a1d ty120.zero).getD []) Try.underlying120 (by kernel_rfl) (by kernel_rfl) ⟨by kernel_rfl, by kernel_rfl⟩ (by kernel_rfl) (by kernel_rfl) (by kernel_rfl) (by kernel_rfl) (by kernel_rfl)
noncomputable def ty122 : TyI where
 td := .arr 24 109
 size := 24
 bytes := 192
 zero := [.xs (.int .u64) 24 (List.replicate 24 0)]
theorem d0z : TyOk Try.prog 122 ty122 :=
 TyOk.of (f := Try.t122) (z := (Try.t122.zero).getD .nilIface) (cs := (a1d ty122.zero).getD []) Try.underlying122 (by kernel_rfl) (by kernel_rfl) ⟨by kernel_rfl, by kernel_rfl⟩ (by kernel_rfl) (by kernel_rfl) (by kernel_rfl) (by kernel_rfl) (by kernel_rfl)
noncomputable def ty126 : TyI where
 td := .arr 5 109
 size := 5
 bytes := 40
 zero := [.xs (.int .u64) 5 (List.replicate 5 0)]
theorem d5I : TyOk Try.prog 126 ty126 :=
 TyOk.of (f := Try.t126) (z := (Try.t126.zero).getD .nilIface) (cs := (a1d ty126.zero).getD []) Try.underlying126 (by kernel_rfl) (by kernel_rfl) ⟨by kernel_rfl, by kernel_rfl⟩ (by kernel_rfl) (by kernel_rfl) (by kernel_rfl) (by kernel_rfl) (by kernel_rfl)
theorem b7M : i3 Try.prog 6 := ⟨Try.f6, Try.func6, by kernel_rfl, by kernel_rfl⟩
theorem b9B : i3 Try.prog 7 := ⟨Try.f7, Try.func7, by kernel_rfl, by kernel_rfl⟩
theorem a8I : i3 Try.prog 8 := ⟨Try.f8, Try.func8, by kernel_rfl, by kernel_rfl⟩
theorem c1i : i3 Try.prog 9 := ⟨Try.f9, Try.func9, by kernel_rfl, by kernel_rfl⟩
theorem a8J : i3 Try.prog 10 := ⟨Try.f10, Try.func10, by kernel_rfl, by kernel_rfl⟩
theorem a4h : i3 Try.prog 12 := ⟨Try.f12, Try.func12, by kernel_rfl, by kernel_rfl⟩
theorem a0D : i3 Try.prog 13 := ⟨Try.f13, Try.func13, by kernel_rfl, by kernel_rfl⟩
theorem A7 : i3 Try.prog 14 := ⟨Try.f14, Try.func14, by kernel_rfl, by kernel_rfl⟩
theorem a9F : i3 Try.prog 15 := ⟨Try.f15, Try.func15, by kernel_rfl, by kernel_rfl⟩
theorem a1h : i3 Try.prog 16 := ⟨Try.f16, Try.func16, by kernel_rfl, by kernel_rfl⟩
theorem b38 : i3 Try.prog 17 := ⟨Try.f17, Try.func17, by kernel_rfl, by kernel_rfl⟩
theorem a4i : i3 Try.prog 18 := ⟨Try.f18, Try.func18, by kernel_rfl, by kernel_rfl⟩
theorem a3i : i3 Try.prog 19 := ⟨Try.f19, Try.func19, by kernel_rfl, by kernel_rfl⟩
theorem a8E : i3 Try.prog 20 := ⟨Try.f20, Try.func20, by kernel_rfl, by kernel_rfl⟩
theorem a2l : i3 Try.prog 21 := ⟨Try.f21, Try.func21, by kernel_rfl, by kernel_rfl⟩
theorem a0b : i3 Try.prog 22 := ⟨Try.f22, Try.func22, by kernel_rfl, by kernel_rfl⟩
theorem a8D : i3 Try.prog 23 := ⟨Try.f23, Try.func23, by kernel_rfl, by kernel_rfl⟩
theorem a40 : i3 Try.prog 24 := ⟨Try.f24, Try.func24, by kernel_rfl, by kernel_rfl⟩
theorem c1j : i3 Try.prog 25 := ⟨Try.f25, Try.func25, by kernel_rfl, by kernel_rfl⟩
theorem b0D : i3 Try.prog 26 := ⟨Try.f26, Try.func26, by kernel_rfl, by kernel_rfl⟩
theorem b1J : i3 Try.prog 27 := ⟨Try.f27, Try.func27, by kernel_rfl, by kernel_rfl⟩
theorem b37 : i3 Try.prog 28 := ⟨Try.f28, Try.func28, by kernel_rfl, by kernel_rfl⟩
theorem J1 : i3 Try.prog 29 := ⟨Try.f29, Try.func29, by kernel_rfl, by kernel_rfl⟩
theorem a4g : i3 Try.prog 30 := ⟨Try.f30, Try.func30, by kernel_rfl, by kernel_rfl⟩
theorem a8F : i3 Try.prog 31 := ⟨Try.f31, Try.func31, by kernel_rfl, by kernel_rfl⟩
theorem a5w : i3 Try.prog 32 := ⟨Try.f32, Try.func32, by kernel_rfl, by kernel_rfl⟩
theorem a8C : i3 Try.prog 33 := ⟨Try.f33, Try.func33, by kernel_rfl, by kernel_rfl⟩
theorem a2Q : i3 Try.prog 34 := ⟨Try.f34, Try.func34, by kernel_rfl, by kernel_rfl⟩
theorem a6v : i3 Try.prog 35 := ⟨Try.f35, Try.func35, by kernel_rfl, by kernel_rfl⟩
theorem a5v : i3 Try.prog 36 := ⟨Try.f36, Try.func36, by kernel_rfl, by kernel_rfl⟩
theorem b0C : i3 Try.prog 37 := ⟨Try.f37, Try.func37, by kernel_rfl, by kernel_rfl⟩
theorem a2E : i3 Try.prog 38 := ⟨Try.f38, Try.func38, by kernel_rfl, by kernel_rfl⟩
theorem b3j : i3 Try.prog 39 := ⟨Try.f39, Try.func39, by kernel_rfl, by kernel_rfl⟩
theorem b7N : i3 Try.prog 40 := ⟨Try.f40, Try.func40, by kernel_rfl, by kernel_rfl⟩
theorem a5N : i3 Try.prog 41 := ⟨Try.f41, Try.func41, by kernel_rfl, by kernel_rfl⟩
theorem U6 : i3 Try.prog 42 := ⟨Try.f42, Try.func42, by kernel_rfl, by kernel_rfl⟩
theorem a0C : i3 Try.prog 43 := ⟨Try.f43, Try.func43, by kernel_rfl, by kernel_rfl⟩
theorem b7L : i3 Try.prog 44 := ⟨Try.f44, Try.func44, by kernel_rfl, by kernel_rfl⟩
theorem o7 : i3 Try.prog 45 := ⟨Try.f45, Try.func45, by kernel_rfl, by kernel_rfl⟩
theorem b4u : i3 Try.prog 46 := ⟨Try.f46, Try.func46, by kernel_rfl, by kernel_rfl⟩
theorem U5 : i3 Try.prog 47 := ⟨Try.f47, Try.func47, by kernel_rfl, by kernel_rfl⟩
theorem a8G : i3 Try.prog 48 := ⟨Try.f48, Try.func48, by kernel_rfl, by kernel_rfl⟩
theorem a8H : i3 Try.prog 49 := ⟨Try.f49, Try.func49, by kernel_rfl, by kernel_rfl⟩
theorem a6u : i3 Try.prog 50 := ⟨Try.f50, Try.func50, by kernel_rfl, by kernel_rfl⟩
theorem b9A : i3 Try.prog 51 := ⟨Try.f51, Try.func51, by kernel_rfl, by kernel_rfl⟩
theorem b7K : i3 Try.prog 52 := ⟨Try.f52, Try.func52, by kernel_rfl, by kernel_rfl⟩
theorem a0h : i3 Try.prog 53 := ⟨Try.f53, Try.func53, by kernel_rfl, by kernel_rfl⟩
theorem b9z : i3 Try.prog 54 := ⟨Try.f54, Try.func54, by kernel_rfl, by kernel_rfl⟩
theorem b1H : i3 Try.prog 55 := ⟨Try.f55, Try.func55, by kernel_rfl, by kernel_rfl⟩
theorem b0V : i3 Try.prog 56 := ⟨Try.f56, Try.func56, by kernel_rfl, by kernel_rfl⟩
theorem a1g : i3 Try.prog 57 := ⟨Try.f57, Try.func57, by kernel_rfl, by kernel_rfl⟩
theorem a70 : i3 Try.prog 58 := ⟨Try.f58, Try.func58, by kernel_rfl, by kernel_rfl⟩
theorem a6w : i3 Try.prog 59 := ⟨Try.f59, Try.func59, by kernel_rfl, by kernel_rfl⟩
theorem N9 : i3 Try.prog 60 := ⟨Try.f60, Try.func60, by kernel_rfl, by kernel_rfl⟩
theorem b5U : i3 Try.prog 61 := ⟨Try.f61, Try.func61, by kernel_rfl, by kernel_rfl⟩
theorem a8K : i3 Try.prog 62 := ⟨Try.f62, Try.func62, by kernel_rfl, by kernel_rfl⟩
theorem a3X : i3 Try.prog 63 := ⟨Try.f63, Try.func63, by kernel_rfl, by kernel_rfl⟩
theorem a3Y : i3 Try.prog 64 := ⟨Try.f64, Try.func64, by kernel_rfl, by kernel_rfl⟩
theorem b0W : i3 Try.prog 65 := ⟨Try.f65, Try.func65, by kernel_rfl, by kernel_rfl⟩
theorem b1I : i3 Try.prog 66 := ⟨Try.f66, Try.func66, by kernel_rfl, by kernel_rfl⟩
theorem b3k : i3 Try.prog 67 := ⟨Try.f67, Try.func67, by kernel_rfl, by kernel_rfl⟩
theorem b5V : i3 Try.prog 68 := ⟨Try.f68, Try.func68, by kernel_rfl, by kernel_rfl⟩
theorem b3i : i3 Try.prog 69 := ⟨Try.f69, Try.func69, by kernel_rfl, by kernel_rfl⟩
theorem a42 : i3 Try.prog 70 := ⟨Try.f70, Try.func70, by kernel_rfl, by kernel_rfl⟩
theorem b0X : i3 Try.prog 71 := ⟨Try.f71, Try.func71, by kernel_rfl, by kernel_rfl⟩
theorem a68 : i3 Try.prog 72 := ⟨Try.f72, Try.func72, by kernel_rfl, by kernel_rfl⟩
theorem a69 : i3 Try.prog 73 := ⟨Try.f73, Try.func73, by kernel_rfl, by kernel_rfl⟩
theorem a41 : i3 Try.prog 74 := ⟨Try.f74, Try.func74, by kernel_rfl, by kernel_rfl⟩
theorem a8L : i3 Try.prog 75 := ⟨Try.f75, Try.func75, by kernel_rfl, by kernel_rfl⟩
theorem b1K : i3 Try.prog 76 := ⟨Try.f76, Try.func76, by kernel_rfl, by kernel_rfl⟩
theorem a9G : i3 Try.prog 77 := ⟨Try.f77, Try.func77, by kernel_rfl, by kernel_rfl⟩
theorem b4v : i3 Try.prog 78 := ⟨Try.f78, Try.func78, by kernel_rfl, by kernel_rfl⟩
theorem a8B : i3 Try.prog 79 := ⟨Try.f79, Try.func79, by kernel_rfl, by kernel_rfl⟩
end Go.Ax.TryP
set_option linter.unusedVariables false
namespace Go.Ax.TryP
open Go.Proofs
noncomputable def c6y : AE := AE.ofI [(26, ty26)] [] [] [] [] [] []
noncomputable def a6f : Inl := d2U c6y 0 Try.f43
theorem a3n : b9w Try.prog 43 a6f := c0C (AE.ofI_ok (all_cons c2Q c6) c6 c6 c6 c6) mix Try.func43 0
noncomputable def c6z : AE := AE.ofI [(40, ty40)] [] [] [(43, a6f)] [] [] []
noncomputable def a1l : Inl := d2U c6z 0 Try.f14
theorem O5 : b9w Try.prog 14 a1l := c0C (AE.ofI_ok (all_cons s5 c6) c6 c6 (all_cons ⟨a3n, a0C⟩ c6) c6) mix Try.func14 0
noncomputable def c8k : AE := AE.ofI [] [] [] [(43, a6f)] [] [] []
noncomputable def a6x : Inl := d2U c8k 0 Try.f22
theorem a2V : b9w Try.prog 22 a6x := c0C (AE.ofI_ok c6 c6 c6 (all_cons ⟨a3n, a0C⟩ c6) c6) mix Try.func22 0
noncomputable def c8j : AE := AE.ofI [(5, ty5), (23, ty23)] [] [] [] [] [] []
noncomputable def c1x : Inl := d2U c8j 0 Try.f28
theorem b86 : b9w Try.prog 28 c1x := c0C (AE.ofI_ok (all_cons Z8 (all_cons G0 c6)) c6 c6 c6 c6) mix Try.func28 0
theorem d41 : d4m Try.prog 20 := ⟨_, Try.underlying20⟩
theorem c8l : d4n Try.prog 26 79 := ⟨_, Try.t26, Try.underlying79, by kernel_rfl, by kernel_rfl⟩
noncomputable def cat_dsa_caught_E : AE := AE.ofA [(26, ty26)] [] [] [] [] [] [] [] [] [20] [(26, 79)] []
noncomputable def a4C : Cat := d8v cat_dsa_caught_E 0 Try.f12
theorem b5M : cat_dsa_caught_E.Ok Try.prog := AE.ofA_ok (all_cons c2Q c6) c6 c6 c6 c6 c6 c6 (all_cons d41 c6) (all_cons c8l c6) c6
theorem a4c : d1O Try.prog 12 a4C := d4G b5M mix Try.func12 0
end Go.Ax.TryP
set_option linter.unusedVariables false
namespace Go.Ax.TryP
open Go.Proofs
def rot (a n : Int) : Int := if n = 0 then a else ior .u64 (b0Z .u64 a n) (b9D .u64 a (64 - n))
def x64 (a b : Int) : Int := c1C .u64 a b
def offs : List Int := [0, 1, 62, 28, 27, 36, 44, 6, 55, 20, 3, 10, 43, 25, 39, 41, 45, 15, 21, 8, 18, 2, 61, 56, 14]
def cons : List Int := [0x0000000000000001, 0x0000000000008082, 0x800000000000808a, 0x8000000080008000, 0x000000000000808b, 0x0000000080000001, 0x8000000080008081, 0x8000000000008009, 0x000000000000008a, 0x0000000000000088, 0x0000000080008009, 0x000000008000000a, 0x000000008000808b, 0x800000000000008b, 0x8000000000008089, 0x8000000000008003, 0x8000000000008002, 0x8000000000000080, 0x000000000000800a, 0x800000008000000a, 0x8000000080008081, 0x8000000000008080, 0x0000000080000001, 0x8000000080008008]
def at0 (a : List Int) (i : Nat) : Int := a.getD i 0
def cF (a : List Int) (x : Nat) : Int := x64 (x64 (x64 (x64 (at0 a x) (at0 a (x + 5))) (at0 a (x + 10))) (at0 a (x + 15))) (at0 a (x + 20))
def dF (a : List Int) (x : Nat) : Int := x64 (cF a ((x + 4) % 5)) (rot (cF a ((x + 1) % 5)) 1)
def tF (a : List Int) (i : Nat) : Int := rot (x64 (at0 a i) (dF a (i % 5))) (offs.getD i 0)
def d43 (j : Nat) : Nat := 5 * (j % 5) + (3 * (j / 5) + j % 5) % 5
def to5 (i : Nat) : Nat := 5 * ((2 * (i % 5) + 3 * (i / 5)) % 5) + i / 5
def bF (a : List Int) (j : Nat) : Int := tF a (d43 j)
def eF (b : Nat → Int) (i : Nat) : Int := x64 (b i) (b87 .u64 (c1C .u64 18446744073709551615 (b (i / 5 * 5 + (i + 1) % 5))) (b (i / 5 * 5 + (i + 2) % 5)))
def d5c (a : List Int) : List Int := (List.range 25).map (eF (bF a))
def d0l (a : List Int) (c : Int) : List Int := (d5c a).set 0 (x64 (at0 (d5c a) 0) c)
def d1j : Nat → List Int → List Int
 | 0, a => a
 | n + 1, a => d0l (d1j n a) (cons.getD n 0)
def c3p (a : List Int) : List Int := d1j 24 a
noncomputable def w8 : Int × Int × Unit → Option Int := a0u (ks := [.int .u64, .int .i64]) (rs := [.int .u64]) (fun x => 0 ≤ x.2.1 ∧ x.2.1 < 64) fun x => rot x.1 x.2.1
noncomputable def a2n : Unit → Option (List Int) := a0u (ks := []) (rs := [.xs (.int .i64) 25]) (fun _ => True) fun _ => offs
noncomputable def a0m : Unit → Option (List Int) := a0u (ks := []) (rs := [.xs (.int .u64) 24]) (fun _ => True) fun _ => cons
noncomputable def a4D : List Int × List Int × Unit → Option (List Int) := a0u (ks := [.xs (.int .u64) 25, .rp (.xs (.int .i64) 25)]) (rs := [.xs (.int .u64) 25]) (fun x => x.2.1 = offs) fun x => d5c x.1
noncomputable def H2 : List Int × Unit → Option (List Int) := a0u (ks := [.xs (.int .u64) 25]) (rs := [.xs (.int .u64) 25]) (fun _ => True) fun x => c3p x.1
end Go.Ax.TryP
set_option linter.unusedVariables false
namespace Go.Ax.TryP
open Go.Proofs
noncomputable def p_bits_RotateLeft64_E : AE := AE.of [(3, ty3), (73, ty73)] []
noncomputable def b2a : Hints := [(3000000, [4])]
noncomputable def b2b : Code := (Try.f79).body.getD .skip
abbrev C4 : List Kd := [.int .u64, .int .i64]
abbrev a0k : List Kd := [.int .u64]
noncomputable def U9 (N : Nat) (x : Int × Int × Unit) : Option (Int) :=
 if (b87 IntKind.u64 (IntKind.u64.wrap x.2.1) (63:Int)) < 0 then none else (
 if (IntKind.u64.wrap ((64:Int) - (b87 IntKind.u64 (IntKind.u64.wrap x.2.1) (63:Int)))) < 0 then none else (
 some (ior IntKind.u64 (b0Z IntKind.u64 x.1 (b87 IntKind.u64 (IntKind.u64.wrap x.2.1) (63:Int))) (b9D IntKind.u64 x.1 (IntKind.u64.wrap ((64:Int) - (b87 IntKind.u64 (IntKind.u64.wrap x.2.1) (63:Int))))))))
theorem a9U : p_bits_RotateLeft64_E.Ok Try.prog := AE.of_ok (all_cons a5T (all_cons d70 c6)) c6
theorem b00 (hE : p_bits_RotateLeft64_E.Ok Try.prog) {g : Ds C4 → Option (Rs [.int .u64])} (hg : ∀ x r, g x = some r → ∃ N, U9 N x = some r) : c8 Try.prog 79 ⟨C4, [.int .u64], g⟩ :=
 i6 (E := p_bits_RotateLeft64_E) (H := b2a) (L := fun N => LT.nil) (c := b2b) (ks := C4) (rs := a0k) (F := U9) hE mix Try.func79 (by kernel_rfl) (fun N => OkAll.nil) (fun _ _ => by kernel_rfl) hg
noncomputable def p_keccak_offsets_E : AE := AE.of [(3, ty3), (120, ty120)] []
noncomputable def b6S : Hints := [(3000000, [0])]
noncomputable def b6T : Code := (Try.f76).body.getD .skip
abbrev a2N : List Kd := []
abbrev M5 : List Kd := [.xs b64 25]
noncomputable def a5K (N : Nat) (x : Unit) : Option (List Int) :=
 some (List.set (List.set (List.set (List.set (List.set (List.set (List.set (List.set (List.set (List.set (List.set (List.set (List.set (List.set (List.set (List.set (List.set (List.set (List.set (List.set (List.set (List.set (List.set (List.set (List.set (List.replicate 25 0) 0 (0:Int)) 1 (1:Int)) 2 (62:Int)) 3 (28:Int)) 4 (27:Int)) 5 (36:Int)) 6 (44:Int)) 7 (6:Int)) 8 (55:Int)) 9 (20:Int)) 10 (3:Int)) 11 (10:Int)) 12 (43:Int)) 13 (25:Int)) 14 (39:Int)) 15 (41:Int)) 16 (45:Int)) 17 (15:Int)) 18 (21:Int)) 19 (8:Int)) 20 (18:Int)) 21 (2:Int)) 22 (61:Int)) 23 (56:Int)) 24 (14:Int))
theorem b3U : p_keccak_offsets_E.Ok Try.prog := AE.of_ok (all_cons a5T (all_cons c5y c6)) c6
theorem b5l (hE : p_keccak_offsets_E.Ok Try.prog) {g : Ds [] → Option (Rs M5)} (hg : ∀ x r, g x = some r → ∃ N, a5K N x = some r) : c8 Try.prog 76 ⟨[], M5, g⟩ :=
 i6 (E := p_keccak_offsets_E) (H := b6S) (L := fun N => LT.nil) (c := b6T) (ks := a2N) (rs := M5) (F := a5K) hE mix Try.func76 (by kernel_rfl) (fun N => OkAll.nil) (fun _ _ => by kernel_rfl) hg
noncomputable def p_keccak_constants_E : AE := AE.of [(109, ty109), (122, ty122)] []
noncomputable def b3M : Hints := [(3000000, [0])]
noncomputable def b3N : Code := (Try.f77).body.getD .skip
abbrev a06 : List Kd := []
abbrev F9 : List Kd := [.xs (.int .u64) 24]
noncomputable def a3M (N : Nat) (x : Unit) : Option (List Int) :=
 some (List.set (List.set (List.set (List.set (List.set (List.set (List.set (List.set (List.set (List.set (List.set (List.set (List.set (List.set (List.set (List.set (List.set (List.set (List.set (List.set (List.set (List.set (List.set (List.set (List.replicate 24 0) 0 (1:Int)) 1 (32898:Int)) 2 (9223372036854808714:Int)) 3 (9223372039002292224:Int)) 4 (32907:Int)) 5 (2147483649:Int)) 6 (9223372039002292353:Int)) 7 (9223372036854808585:Int)) 8 (138:Int)) 9 (136:Int)) 10 (2147516425:Int)) 11 (2147483658:Int)) 12 (2147516555:Int)) 13 (9223372036854775947:Int)) 14 (9223372036854808713:Int)) 15 (9223372036854808579:Int)) 16 (9223372036854808578:Int)) 17 (9223372036854775936:Int)) 18 (32778:Int)) 19 (9223372039002259466:Int)) 20 (9223372039002292353:Int)) 21 (9223372036854808704:Int)) 22 (2147483649:Int)) 23 (9223372039002292232:Int))
theorem b1n : p_keccak_constants_E.Ok Try.prog := AE.of_ok (all_cons b7p (all_cons d0z c6)) c6
theorem b2x (hE : p_keccak_constants_E.Ok Try.prog) {g : Ds [] → Option (Rs F9)} (hg : ∀ x r, g x = some r → ∃ N, a3M N x = some r) : c8 Try.prog 77 ⟨[], F9, g⟩ :=
 i6 (E := p_keccak_constants_E) (H := b3M) (L := fun N => LT.nil) (c := b3N) (ks := a06) (rs := F9) (F := a3M) hE mix Try.func77 (by kernel_rfl) (fun N => OkAll.nil) (fun _ _ => by kernel_rfl) hg
noncomputable abbrev a2w : Sig := ⟨[.int .u64, .int .i64], [.int .u64], w8⟩
noncomputable def p_keccak_mixed_E : AE := AE.of [(3, ty3), (109, ty109), (110, ty110), (120, ty120), (126, ty126)] [(79, a2w)]
noncomputable def Z3 : Hints := [(3, [1, 2, 4, 5, 6, 15]), (8, [1, 2, 4, 5, 6, 44]), (14, [1, 2, 4, 6, 9, 62]), (20, [2, 4, 9, 93]), (2000000, [1, 2, 4, 5, 6]), (2000001, [1, 2, 4, 5, 6, 15]), (2000002, [1, 2, 4, 6]), (2000003, [1, 2, 4, 5, 6, 44]), (2000004, [2, 4, 9]), (2000005, [1, 2, 4, 6, 9, 62]), (2000006, [2, 4]), (2000007, [2, 4, 9, 93]), (3000000, [4])]
noncomputable def w5 : Code := (Try.f78).body.getD .skip
noncomputable def b5j : Shape := mkS { tmps := V :: .sc (.ptr 0 0 false) :: .sc (.ptr 1 0 false) :: V :: .sc (.ptr 2 0 false) :: .sc (.ptr 3 0 false) :: .sc (.ptr 4 0 false) :: pv 8 (.sc (.int .i64) :: pv 107 []), mem := [.live [.xs b64 (some 25)] (.ro), .live [.xs (.int .u64) (some 25)] (.own), .live [.xs (.int .u64) (some 25)] (.own), .live [.xs (.int .u64) (some 5)] (.own), .live [.xs (.int .u64) (some 5)] (.own)] } [.int, .xs, .xs, .xs, .xs, .xs]
abbrev W0 : Type := Int × List Int × List Int × List Int × List Int × List Int × Unit
abbrev W1 : Type := List Int × List Int × List Int × List Int × List Int × Unit
noncomputable def M3 (N : Nat) (β : Type) (x : W0) (kn : W0 → Option β) (ke : W1 → Option β) : Option β :=
 if (x.1 < (5:Int)) then
  if 0 ≤ x.1 then (
  if x.1 < 25 then (
  if (x.1.toNat) < 25 then (
  if 0 ≤ (IntKind.i64.wrap (x.1 + (5:Int))) then (
  if (IntKind.i64.wrap (x.1 + (5:Int))) < 25 then (
  if ((IntKind.i64.wrap (x.1 + (5:Int))).toNat) < 25 then (
  if 0 ≤ (IntKind.i64.wrap (x.1 + (10:Int))) then (
  if (IntKind.i64.wrap (x.1 + (10:Int))) < 25 then (
  if ((IntKind.i64.wrap (x.1 + (10:Int))).toNat) < 25 then (
  if 0 ≤ (IntKind.i64.wrap (x.1 + (15:Int))) then (
  if (IntKind.i64.wrap (x.1 + (15:Int))) < 25 then (
  if ((IntKind.i64.wrap (x.1 + (15:Int))).toNat) < 25 then (
  if 0 ≤ (IntKind.i64.wrap (x.1 + (20:Int))) then (
  if (IntKind.i64.wrap (x.1 + (20:Int))) < 25 then (
  if ((IntKind.i64.wrap (x.1 + (20:Int))).toNat) < 25 then (
  if 0 ≤ x.1 then (
  if x.1 < 5 then (
  if (x.1.toNat) < 5 then (
  kn ((IntKind.i64.wrap (x.1 + (1:Int))), x.2.1, x.2.2.1, x.2.2.2.1, (List.set x.2.2.2.2.1 (x.1.toNat) (c1C IntKind.u64 (c1C IntKind.u64 (c1C IntKind.u64 (c1C IntKind.u64 (List.getD x.2.2.1 (x.1.toNat) 0) (List.getD x.2.2.1 ((IntKind.i64.wrap (x.1 + (5:Int))).toNat) 0)) (List.getD x.2.2.1 ((IntKind.i64.wrap (x.1 + (10:Int))).toNat) 0)) (List.getD x.2.2.1 ((IntKind.i64.wrap (x.1 + (15:Int))).toNat) 0)) (List.getD x.2.2.1 ((IntKind.i64.wrap (x.1 + (20:Int))).toNat) 0))), x.2.2.2.2.2.1, ())) else none) else none) else none) else none) else none) else none) else none) else none) else none) else none) else none) else none) else none) else none) else none) else none) else none) else none
 else
  ke (x.2.1, x.2.2.1, x.2.2.2.1, x.2.2.2.2.1, x.2.2.2.2.2.1, ())
noncomputable def b3Q : Go' W1 := fun y K => K (.exit 0) (fSt { tmps := V :: .sc (.ptr 0 0 false) :: .sc (.ptr 1 0 false) :: V :: .sc (.ptr 2 0 false) :: .sc (.ptr 3 0 false) :: .sc (.ptr 4 0 false) :: pv 116 [], mem := [.live [.xs b64 (some 25)] (.ro), .live [.xs (.int .u64) (some 25)] (.own), .live [.xs (.int .u64) (some 25)] (.own), .live [.xs (.int .u64) (some 5)] (.own), .live [.xs (.int .u64) (some 5)] (.own)] } [.xs, .xs, .xs, .xs, .xs] y)
noncomputable def a6N (N : Nat) : LT := upd (LT.nil) 3 (o9 b5j N (M3 N) b3Q)
theorem b3R (N : Nat) : OkAll p_keccak_mixed_E Z3 N (a6N N) (x4 w5) :=
 d7 (c := d8 3 w5) (OkAll.nil) (by kernel_rfl) (fun x => by kernel_rfl) (fun β x kn ke => by kernel_rfl)
noncomputable def b5k : Shape := mkS { tmps := V :: .sc (.ptr 0 0 false) :: .sc (.ptr 1 0 false) :: V :: .sc (.ptr 2 0 false) :: .sc (.ptr 3 0 false) :: .sc (.ptr 4 0 false) :: pv 37 (.sc (.int .i64) :: pv 78 []), mem := [.live [.xs b64 (some 25)] (.ro), .live [.xs (.int .u64) (some 25)] (.own), .live [.xs (.int .u64) (some 25)] (.own), .live [.xs (.int .u64) (some 5)] (.own), .live [.xs (.int .u64) (some 5)] (.own)] } [.int, .xs, .xs, .xs, .xs, .xs]
abbrev W2 : Type := List Int × List Int × List Int × List Int × Unit
noncomputable def M4 (N : Nat) (β : Type) (x : W0) (kn : W0 → Option β) (ke : W2 → Option β) : Option β :=
 if (x.1 < (5:Int)) then
  if 0 ≤ (Int.tmod (IntKind.i64.wrap (x.1 + (4:Int))) (5:Int)) then (
  if (Int.tmod (IntKind.i64.wrap (x.1 + (4:Int))) (5:Int)) < 5 then (
  if ((Int.tmod (IntKind.i64.wrap (x.1 + (4:Int))) (5:Int)).toNat) < 5 then (
  if 0 ≤ (Int.tmod (IntKind.i64.wrap (x.1 + (1:Int))) (5:Int)) then (
  if (Int.tmod (IntKind.i64.wrap (x.1 + (1:Int))) (5:Int)) < 5 then (
  if ((Int.tmod (IntKind.i64.wrap (x.1 + (1:Int))) (5:Int)).toNat) < 5 then (
  (w8 ((List.getD x.2.2.2.2.1 ((Int.tmod (IntKind.i64.wrap (x.1 + (1:Int))) (5:Int)).toNat) 0), (1:Int), ())).bind fun r2 => (
  if 0 ≤ x.1 then (
  if x.1 < 5 then (
  if (x.1.toNat) < 5 then (
  kn ((IntKind.i64.wrap (x.1 + (1:Int))), x.2.1, x.2.2.1, x.2.2.2.1, x.2.2.2.2.1, (List.set x.2.2.2.2.2.1 (x.1.toNat) (c1C IntKind.u64 (List.getD x.2.2.2.2.1 ((Int.tmod (IntKind.i64.wrap (x.1 + (4:Int))) (5:Int)).toNat) 0) r2)), ())) else none) else none) else none)) else none) else none) else none) else none) else none) else none
 else
  ke (x.2.1, x.2.2.1, x.2.2.2.1, x.2.2.2.2.2.1, ())
noncomputable def b3S : Go' W2 := fun y K => K (.exit 2) (fSt { tmps := V :: .sc (.ptr 0 0 false) :: .sc (.ptr 1 0 false) :: V :: .sc (.ptr 2 0 false) :: V :: .sc (.ptr 3 0 false) :: pv 116 [], mem := [.live [.xs b64 (some 25)] (.ro), .live [.xs (.int .u64) (some 25)] (.own), .live [.xs (.int .u64) (some 25)] (.own), .live [.xs (.int .u64) (some 5)] (.own)] } [.xs, .xs, .xs, .xs] y)
noncomputable def a6O (N : Nat) : LT := upd (a6N N) 8 (o9 b5k N (M4 N) b3S)
theorem b3T (N : Nat) : OkAll p_keccak_mixed_E Z3 N (a6O N) (x4 w5) :=
 d7 (c := d8 8 w5) (b3R N) (by kernel_rfl) (fun x => by kernel_rfl) (fun β x kn ke => by kernel_rfl)
noncomputable def b3O : Shape := mkS { tmps := V :: .sc (.ptr 0 0 false) :: .sc (.ptr 1 0 false) :: V :: .sc (.ptr 2 0 false) :: V :: .sc (.ptr 3 0 false) :: V :: V :: .sc (.ptr 4 0 false) :: pv 52 (.sc (.int .i64) :: pv 60 []), mem := [.live [.xs b64 (some 25)] (.ro), .live [.xs (.int .u64) (some 25)] (.own), .live [.xs (.int .u64) (some 25)] (.own), .live [.xs (.int .u64) (some 5)] (.own), .live [.xs (.int .u64) (some 25)] (.own)] } [.int, .xs, .xs, .xs, .xs, .xs]
abbrev W3 : Type := List Int × List Int × List Int × Unit
noncomputable def B5 (N : Nat) (β : Type) (x : W0) (kn : W0 → Option β) (ke : W3 → Option β) : Option β :=
 if (x.1 < (25:Int)) then
  if 0 ≤ x.1 then (
  if x.1 < 25 then (
  if (x.1.toNat) < 25 then (
  if 0 ≤ (Int.tmod x.1 (5:Int)) then (
  if (Int.tmod x.1 (5:Int)) < 5 then (
  if ((Int.tmod x.1 (5:Int)).toNat) < 5 then (
  if 0 ≤ x.1 then (
  if x.1 < 25 then (
  if (x.1.toNat) < 25 then (
  (w8 ((c1C IntKind.u64 (List.getD x.2.2.1 (x.1.toNat) 0) (List.getD x.2.2.2.2.1 ((Int.tmod x.1 (5:Int)).toNat) 0)), (List.getD x.2.1 (x.1.toNat) 0), ())).bind fun r4 => (
  if 0 ≤ (IntKind.i64.wrap ((IntKind.i64.wrap ((5:Int) * (Int.tmod (IntKind.i64.wrap ((IntKind.i64.wrap ((2:Int) * (Int.tmod x.1 (5:Int)))) + (IntKind.i64.wrap ((3:Int) * (IntKind.i64.wrap (Int.tdiv x.1 (5:Int))))))) (5:Int)))) + (IntKind.i64.wrap (Int.tdiv x.1 (5:Int))))) then (
  if (IntKind.i64.wrap ((IntKind.i64.wrap ((5:Int) * (Int.tmod (IntKind.i64.wrap ((IntKind.i64.wrap ((2:Int) * (Int.tmod x.1 (5:Int)))) + (IntKind.i64.wrap ((3:Int) * (IntKind.i64.wrap (Int.tdiv x.1 (5:Int))))))) (5:Int)))) + (IntKind.i64.wrap (Int.tdiv x.1 (5:Int))))) < 25 then (
  if ((IntKind.i64.wrap ((IntKind.i64.wrap ((5:Int) * (Int.tmod (IntKind.i64.wrap ((IntKind.i64.wrap ((2:Int) * (Int.tmod x.1 (5:Int)))) + (IntKind.i64.wrap ((3:Int) * (IntKind.i64.wrap (Int.tdiv x.1 (5:Int))))))) (5:Int)))) + (IntKind.i64.wrap (Int.tdiv x.1 (5:Int))))).toNat) < 25 then (
  kn ((IntKind.i64.wrap (x.1 + (1:Int))), x.2.1, x.2.2.1, x.2.2.2.1, x.2.2.2.2.1, (List.set x.2.2.2.2.2.1 ((IntKind.i64.wrap ((IntKind.i64.wrap ((5:Int) * (Int.tmod (IntKind.i64.wrap ((IntKind.i64.wrap ((2:Int) * (Int.tmod x.1 (5:Int)))) + (IntKind.i64.wrap ((3:Int) * (IntKind.i64.wrap (Int.tdiv x.1 (5:Int))))))) (5:Int)))) + (IntKind.i64.wrap (Int.tdiv x.1 (5:Int))))).toNat) r4), ())) else none) else none) else none)) else none) else none) else none) else none) else none) else none) else none) else none) else none
 else
  ke (x.2.2.1, x.2.2.2.1, x.2.2.2.2.2.1, ())
noncomputable def b2y : Go' W3 := fun y K => K (.exit 4) (fSt { tmps := V :: V :: .sc (.ptr 0 0 false) :: V :: .sc (.ptr 1 0 false) :: pv 4 (.sc (.ptr 2 0 false) :: pv 113 []), mem := [.live [.xs (.int .u64) (some 25)] (.own), .live [.xs (.int .u64) (some 25)] (.own), .live [.xs (.int .u64) (some 25)] (.own)] } [.xs, .xs, .xs] y)
noncomputable def a5R (N : Nat) : LT := upd (a6O N) 14 (o9 b3O N (B5 N) b2y)
theorem b2z (N : Nat) : OkAll p_keccak_mixed_E Z3 N (a5R N) (x4 w5) :=
 d7 (c := d8 14 w5) (b3T N) (by kernel_rfl) (fun x => by kernel_rfl) (fun β x kn ke => by kernel_rfl)
noncomputable def b3P : Shape := mkS { tmps := V :: V :: .sc (.ptr 0 0 false) :: V :: .sc (.ptr 1 0 false) :: pv 4 (.sc (.ptr 2 0 false) :: pv 83 (.sc (.int .i64) :: pv 29 [])), mem := [.live [.xs (.int .u64) (some 25)] (.own), .live [.xs (.int .u64) (some 25)] (.own), .live [.xs (.int .u64) (some 25)] (.own)] } [.int, .xs, .xs, .xs]
abbrev W4 : Type := Int × List Int × List Int × List Int × Unit
abbrev W5 : Type := List Int × List Int × Unit
noncomputable def B6 (N : Nat) (β : Type) (x : W4) (kn : W4 → Option β) (ke : W5 → Option β) : Option β :=
 if (x.1 < (25:Int)) then
  if 0 ≤ x.1 then (
  if x.1 < 25 then (
  if (x.1.toNat) < 25 then (
  if 0 ≤ (IntKind.i64.wrap ((IntKind.i64.wrap ((IntKind.i64.wrap (Int.tdiv x.1 (5:Int))) * (5:Int))) + (Int.tmod (IntKind.i64.wrap (x.1 + (1:Int))) (5:Int)))) then (
  if (IntKind.i64.wrap ((IntKind.i64.wrap ((IntKind.i64.wrap (Int.tdiv x.1 (5:Int))) * (5:Int))) + (Int.tmod (IntKind.i64.wrap (x.1 + (1:Int))) (5:Int)))) < 25 then (
  if ((IntKind.i64.wrap ((IntKind.i64.wrap ((IntKind.i64.wrap (Int.tdiv x.1 (5:Int))) * (5:Int))) + (Int.tmod (IntKind.i64.wrap (x.1 + (1:Int))) (5:Int)))).toNat) < 25 then (
  if 0 ≤ (IntKind.i64.wrap ((IntKind.i64.wrap ((IntKind.i64.wrap (Int.tdiv x.1 (5:Int))) * (5:Int))) + (Int.tmod (IntKind.i64.wrap (x.1 + (2:Int))) (5:Int)))) then (
  if (IntKind.i64.wrap ((IntKind.i64.wrap ((IntKind.i64.wrap (Int.tdiv x.1 (5:Int))) * (5:Int))) + (Int.tmod (IntKind.i64.wrap (x.1 + (2:Int))) (5:Int)))) < 25 then (
  if ((IntKind.i64.wrap ((IntKind.i64.wrap ((IntKind.i64.wrap (Int.tdiv x.1 (5:Int))) * (5:Int))) + (Int.tmod (IntKind.i64.wrap (x.1 + (2:Int))) (5:Int)))).toNat) < 25 then (
  if 0 ≤ x.1 then (
  if x.1 < 25 then (
  if (x.1.toNat) < 25 then (
  kn ((IntKind.i64.wrap (x.1 + (1:Int))), (List.set x.2.1 (x.1.toNat) (c1C IntKind.u64 (List.getD x.2.2.2.1 (x.1.toNat) 0) (b87 IntKind.u64 (c1C IntKind.u64 (if IntKind.u64.signed then -1 else IntKind.u64.max) (List.getD x.2.2.2.1 ((IntKind.i64.wrap ((IntKind.i64.wrap ((IntKind.i64.wrap (Int.tdiv x.1 (5:Int))) * (5:Int))) + (Int.tmod (IntKind.i64.wrap (x.1 + (1:Int))) (5:Int)))).toNat) 0)) (List.getD x.2.2.2.1 ((IntKind.i64.wrap ((IntKind.i64.wrap ((IntKind.i64.wrap (Int.tdiv x.1 (5:Int))) * (5:Int))) + (Int.tmod (IntKind.i64.wrap (x.1 + (2:Int))) (5:Int)))).toNat) 0)))), x.2.2.1, x.2.2.2.1, ())) else none) else none) else none) else none) else none) else none) else none) else none) else none) else none) else none) else none
 else
  ke (x.2.1, x.2.2.1, ())
noncomputable def b2A : Go' W5 := fun y K => K (.exit 6) (fSt { tmps := V :: V :: .sc (.ptr 0 0 false) :: V :: .sc (.ptr 1 0 false) :: pv 118 [], mem := [.live [.xs (.int .u64) (some 25)] (.own), .live [.xs (.int .u64) (some 25)] (.own)] } [.xs, .xs] y)
noncomputable def a5S (N : Nat) : LT := upd (a5R N) 20 (o9 b3P N (B6 N) b2A)
theorem b2B (N : Nat) : OkAll p_keccak_mixed_E Z3 N (a5S N) (x4 w5) :=
 d7 (c := d8 20 w5) (b2z N) (by kernel_rfl) (fun x => by kernel_rfl) (fun β x kn ke => by kernel_rfl)
abbrev T3 : List Kd := [.xs (.int .u64) 25, .rp (.xs b64 25)]
abbrev T4 : List Kd := [.xs (.int .u64) 25]
noncomputable def a4N (N : Nat) (x : List Int × List Int × Unit) : Option (List Int) :=
 m9 (M3 N) N ((0:Int), x.2.1, x.1, (List.replicate 25 0), (List.replicate 5 0), (List.replicate 5 0), ()) fun y1 => (
 m9 (M4 N) N ((0:Int), y1.1, y1.2.1, y1.2.2.1, y1.2.2.2.1, y1.2.2.2.2.1, ()) fun y3 => (
 m9 (B5 N) N ((0:Int), y3.1, y3.2.1, y3.2.2.1, y3.2.2.2.1, (List.replicate 25 0), ()) fun y5 => (
 m9 (B6 N) N ((0:Int), y5.1, y5.2.1, y5.2.2.1, ()) fun y6 => (
 some y6.1))))
theorem b6R (e0 : c8 Try.prog 79 a2w) : p_keccak_mixed_E.Ok Try.prog := AE.of_ok (all_cons a5T (all_cons b7p (all_cons b3c (all_cons c5y (all_cons d5I c6))))) (all_cons ⟨e0, a8B⟩ c6)
theorem b8B (hE : p_keccak_mixed_E.Ok Try.prog) {g : Ds T3 → Option (Rs T4)} (hg : ∀ x r, g x = some r → ∃ N, a4N N x = some r) : c8 Try.prog 78 ⟨T3, T4, g⟩ :=
 i6 (E := p_keccak_mixed_E) (H := Z3) (L := fun N => a5S N) (c := w5) (ks := T3) (rs := T4) (F := a4N) hE mix Try.func78 (by kernel_rfl) (fun N => b2B N) (fun _ _ => by kernel_rfl) hg
noncomputable abbrev a5t : Sig := ⟨[], [.xs b64 25], a2n⟩
noncomputable abbrev a3e : Sig := ⟨[], [.xs (.int .u64) 24], a0m⟩
noncomputable abbrev a7W : Sig := ⟨[.xs (.int .u64) 25, .rp (.xs b64 25)], [.xs (.int .u64) 25], a4D⟩
noncomputable def p_keccak_Permute_E : AE := AE.of [(109, ty109), (110, ty110), (120, ty120), (122, ty122)] [(76, a5t), (77, a3e), (78, a7W)]
noncomputable def a7L : Hints := [(3, [1, 2, 3, 7, 8]), (2000000, [1, 2]), (2000001, [1, 2, 3, 7, 8]), (3000000, [2])]
noncomputable def a3L : Code := (Try.f74).body.getD .skip
noncomputable def b2s : Shape := mkS { tmps := V :: .sc (.ptr 0 0 false) :: .sc (.ptr 1 0 false) :: .sc (.ptr 2 0 false) :: pv 3 (.agg [.xs (.int .u64) (some 24)] :: .sc (.int .i64) :: pv 11 []), mem := [.live [.xs (.int .u64) (some 25)] (.own), .live [.xs (.int .u64) (some 25)] (.own), .live [.xs b64 (some 25)] (.own)] } [.xs, .int, .xs, .xs, .xs]
abbrev W6 : Type := List Int × Int × List Int × List Int × List Int × Unit
noncomputable def F8 (N : Nat) (β : Type) (x : W6) (kn : W6 → Option β) (ke : W5 → Option β) : Option β :=
 if (x.2.1 < (24:Int)) then
  if 0 ≤ x.2.1 then (
  if x.2.1 < 24 then (
  if (x.2.1.toNat) < 24 then (
  (a4D (x.2.2.1, x.2.2.2.2.1, ())).bind fun r3 => (
  kn (x.1, (IntKind.i64.wrap (x.2.1 + (1:Int))), (List.set r3 0 (c1C IntKind.u64 (List.getD r3 0 0) (List.getD x.1 (x.2.1.toNat) 0))), x.2.2.2.1, x.2.2.2.2.1, ()))) else none) else none) else none
 else
  ke (x.2.2.1, x.2.2.2.1, ())
noncomputable def b1l : Go' W5 := fun y K => K (.exit 0) (fSt { tmps := V :: .sc (.ptr 0 0 false) :: .sc (.ptr 1 0 false) :: pv 17 [], mem := [.live [.xs (.int .u64) (some 25)] (.own), .live [.xs (.int .u64) (some 25)] (.own)] } [.xs, .xs] y)
noncomputable def a5m (N : Nat) : LT := upd (LT.nil) 3 (o9 b2s N (F8 N) b1l)
theorem b1m (N : Nat) : OkAll p_keccak_Permute_E a7L N (a5m N) (x4 a3L) :=
 d7 (c := d8 3 a3L) (OkAll.nil) (by kernel_rfl) (fun x => by kernel_rfl) (fun β x kn ke => by kernel_rfl)
abbrev x3 : List Kd := [.xs (.int .u64) 25]
abbrev a2M : List Kd := [.xs (.int .u64) 25]
noncomputable def a2s (N : Nat) (x : List Int × Unit) : Option (List Int) :=
 (a2n (())).bind fun r1 => (
 (a0m (())).bind fun r2 => (
 m9 (F8 N) N (r2, (0:Int), x.1, (List.replicate 25 0), r1, ()) fun y4 => (
 some y4.1)))
theorem b3H (e0 : c8 Try.prog 76 a5t) (e1 : c8 Try.prog 77 a3e) (e2 : c8 Try.prog 78 a7W) : p_keccak_Permute_E.Ok Try.prog := AE.of_ok (all_cons b7p (all_cons b3c (all_cons c5y (all_cons d0z c6)))) (all_cons ⟨e0, b1K⟩ (all_cons ⟨e1, a9G⟩ (all_cons ⟨e2, b4v⟩ c6)))
theorem b5a (hE : p_keccak_Permute_E.Ok Try.prog) {g : Ds x3 → Option (Rs x3)} (hg : ∀ x r, g x = some r → ∃ N, a2s N x = some r) : c8 Try.prog 74 ⟨x3, x3, g⟩ :=
 i6 (E := p_keccak_Permute_E) (H := a7L) (L := fun N => a5m N) (c := a3L) (ks := x3) (rs := a2M) (F := a2s) hE mix Try.func74 (by kernel_rfl) (fun N => b1m N) (fun _ _ => by kernel_rfl) hg
end Go.Ax.TryP
set_option linter.unusedVariables false
namespace Go.Ax.TryP
open Go.Proofs
abbrev z25 : List Int := List.replicate 25 0
abbrev z5 : List Int := List.replicate 5 0
theorem e0u (x : Int) : 0 ≤ IntKind.u64.wrap x ∧ IntKind.u64.wrap x ≤ 18446744073709551615 := by
 simp [IntKind.wrap, IntKind.signed, IntKind.bits]; omega
theorem d4b (a b : Int) : 0 ≤ x64 a b ∧ x64 a b ≤ 18446744073709551615 := e0u _
theorem e0Q (a : List Int) (x : Nat) : 0 ≤ cF a x ∧ cF a x ≤ 18446744073709551615 := d4b _ _
theorem d9I {a n : Int} : a5p [.int .u64, .int .i64] (a, n, ()) ↔ (0 ≤ a ∧ a ≤ 18446744073709551615) ∧ (-9223372036854775808 ≤ n ∧ n ≤ 9223372036854775807) := by
 have h1 : Kd.wf (.int .u64) a ↔ _ := b55
 have h2 : Kd.wf (.int .i64) n ↔ _ := u4
 simp only [a5p, and_true, h1, h2]
theorem d5W {a n : Int} (h : 0 ≤ a ∧ a ≤ 18446744073709551615) (hn : 0 ≤ n ∧ n < 64) : w8 (a, n, ()) = some (rot a n) :=
 d9 (ks := C4) (rs := a0k) (x := (a, n, ())) (d9I.2 ⟨h, by omega⟩) hn
theorem m3 (N : Nat) {β : Type} (a tn : List Int) (kn : _ → Option β) (k : _ → Option β) : ∀ i : Nat, i < 5 → M3 N β ((i : Int), tn, a, z25, part (cF a) i z5, z5, ()) kn k = kn (((i + 1 : Nat) : Int), tn, a, z25, part (cF a) (i + 1) z5, z5, ())
 | 0, _ => by kernel_rfl
 | 1, _ => by kernel_rfl
 | 2, _ => by kernel_rfl
 | 3, _ => by kernel_rfl
 | 4, _ => by kernel_rfl
 | n + 5, h => absurd h (by omega)
theorem m8 (N : Nat) {β : Type} (a tn : List Int) (kn : _ → Option β) (k : _ → Option β) : ∀ i : Nat, i < 5 → M4 N β ((i : Int), tn, a, z25, (List.range 5).map (cF a), part (dF a) i z5, ()) kn k
  = (w8 (cF a ((i + 1) % 5), 1, ())).bind fun r => kn (((i + 1 : Nat) : Int), tn, a, z25, (List.range 5).map (cF a), (part (dF a) i z5).set i (x64 (cF a ((i + 4) % 5)) r), ())
 | 0, _ => by kernel_rfl
 | 1, _ => by kernel_rfl
 | 2, _ => by kernel_rfl
 | 3, _ => by kernel_rfl
 | 4, _ => by kernel_rfl
 | n + 5, h => absurd h (by omega)
theorem m8s (a : List Int) : ∀ i : Nat, i < 5 → (part (dF a) i z5).set i (x64 (cF a ((i + 4) % 5)) (rot (cF a ((i + 1) % 5)) 1)) = part (dF a) (i + 1) z5
 | 0, _ => by kernel_rfl
 | 1, _ => by kernel_rfl
 | 2, _ => by kernel_rfl
 | 3, _ => by kernel_rfl
 | 4, _ => by kernel_rfl
 | n + 5, h => absurd h (by omega)
def bAt (a : List Int) (i : Nat) : List Int := (List.range 25).map fun j => if d43 j < i then bF a j else 0
theorem m14 (N : Nat) {β : Type} (a b : List Int) (kn : _ → Option β) (k : _ → Option β) : ∀ i : Nat, i < 25 → B5 N β ((i : Int), offs, a, z25, (List.range 5).map (dF a), b, ()) kn k
  = (w8 (x64 (at0 a i) (dF a (i % 5)), offs.getD i 0, ())).bind fun r => kn (((i + 1 : Nat) : Int), offs, a, z25, (List.range 5).map (dF a), b.set (to5 i) r, ())
 | 0, _ => by kernel_rfl
 | 1, _ => by kernel_rfl
 | 2, _ => by kernel_rfl
 | 3, _ => by kernel_rfl
 | 4, _ => by kernel_rfl
 | 5, _ => by kernel_rfl
 | 6, _ => by kernel_rfl
 | 7, _ => by kernel_rfl
 | 8, _ => by kernel_rfl
 | 9, _ => by kernel_rfl
 | 10, _ => by kernel_rfl
 | 11, _ => by kernel_rfl
 | 12, _ => by kernel_rfl
 | 13, _ => by kernel_rfl
 | 14, _ => by kernel_rfl
 | 15, _ => by kernel_rfl
 | 16, _ => by kernel_rfl
 | 17, _ => by kernel_rfl
 | 18, _ => by kernel_rfl
 | 19, _ => by kernel_rfl
 | 20, _ => by kernel_rfl
 | 21, _ => by kernel_rfl
 | 22, _ => by kernel_rfl
 | 23, _ => by kernel_rfl
 | 24, _ => by kernel_rfl
 | n + 25, h => absurd h (by omega)
theorem d7P {f g : Nat → Int} {n k : Nat} {v : Int} (h : ∀ j, j < n → g j = if j = k then v else f j) : ((List.range n).map f).set k v = (List.range n).map g := by
 refine rows.ext (n := n) (by simp) (by simp) fun j hj => ?_
 rw [Q6 hj, h j hj]
 by_cases e : j = k
 ·subst e; rw [if_pos rfl, a0K (by simpa using hj)]
 ·rw [if_neg e, getD_set_ne (fun h => e h.symm), Q6 hj]
theorem d6r : ∀ i : Nat, i < 25 → ∀ j : Nat, j < 25 → (j = to5 i ↔ d43 j = i) := by decide
theorem e0W (a : List Int) (i : Nat) (hi : i < 25) : (bAt a i).set (to5 i) (rot (x64 (at0 a i) (dF a (i % 5))) (offs.getD i 0)) = bAt a (i + 1) := by
 refine d7P fun j hj => ?_
 by_cases e : j = to5 i
 ·rw [if_pos e]
  have e2 := (d6r i hi j hj).1 e
  rw [if_pos (by omega)]
  unfold bF tF
  rw [e2]
 ·rw [if_neg e]
  have e2 : d43 j ≠ i := fun h => e ((d6r i hi j hj).2 h)
  by_cases h : d43 j < i
  ·rw [if_pos h, if_pos (by omega)]
  ·rw [if_neg h, if_neg (by omega)]
theorem d87 : ∀ i : Nat, i < 25 → 0 ≤ offs.getD i 0 ∧ offs.getD i 0 < 64 := by decide
theorem m20 (N : Nat) {β : Type} (a c : List Int) (kn : _ → Option β) (k : _ → Option β) : ∀ i : Nat, i < 25 → B6 N β ((i : Int), c, z25, (List.range 25).map (bF a), ()) kn k
  = kn (((i + 1 : Nat) : Int), c.set i (eF (bF a) i), z25, (List.range 25).map (bF a), ())
 | 0, _ => by kernel_rfl
 | 1, _ => by kernel_rfl
 | 2, _ => by kernel_rfl
 | 3, _ => by kernel_rfl
 | 4, _ => by kernel_rfl
 | 5, _ => by kernel_rfl
 | 6, _ => by kernel_rfl
 | 7, _ => by kernel_rfl
 | 8, _ => by kernel_rfl
 | 9, _ => by kernel_rfl
 | 10, _ => by kernel_rfl
 | 11, _ => by kernel_rfl
 | 12, _ => by kernel_rfl
 | 13, _ => by kernel_rfl
 | 14, _ => by kernel_rfl
 | 15, _ => by kernel_rfl
 | 16, _ => by kernel_rfl
 | 17, _ => by kernel_rfl
 | 18, _ => by kernel_rfl
 | 19, _ => by kernel_rfl
 | 20, _ => by kernel_rfl
 | 21, _ => by kernel_rfl
 | 22, _ => by kernel_rfl
 | 23, _ => by kernel_rfl
 | 24, _ => by kernel_rfl
 | n + 25, h => absurd h (by omega)
def u64s (n : Nat) (a : List Int) : Prop := rows 0 18446744073709551615 n a
theorem c5D {n : Nat} {a : List Int} : Kd.wf (.xs (.int .u64) n) a ↔ u64s n a := by simp [Kd.wf, u64s, rows, b55]
theorem u64s.at {n : Nat} {a : List Int} (h : u64s n a) (i : Nat) : 0 ≤ at0 a i ∧ at0 a i ≤ 18446744073709551615 := rows.at h (by omega) i
theorem e0R (b : Nat → Int) (i : Nat) : 0 ≤ eF b i ∧ eF b i ≤ 18446744073709551615 := d4b _ _
theorem d85 (a : List Int) : u64s 25 (d5c a) := rows.range fun i _ => e0R _ i
theorem d5t (a : List Int) (c : Int) : u64s 25 (d0l a c) := rows.set (d85 a) (d4b _ _)
theorem d3u {a : List Int} (h : u64s 25 a) : ∀ n : Nat, u64s 25 (d1j n a)
 | 0 => h
 | n + 1 => d5t _ _
theorem c8D {a : List Int} (h : u64s 25 a) : u64s 25 (c3p a) := d3u h 24
theorem c0l : ∀ x r, a2n x = some r → ∃ N, a5K N x = some r :=
 i0 (ks := a2N) (rs := M5) fun x _ _ => ⟨0, by kernel_rfl⟩
theorem b7b : ∀ x r, a0m x = some r → ∃ N, a3M N x = some r :=
 i0 (ks := a06) (rs := F9) fun x _ _ => ⟨0, by kernel_rfl⟩
theorem d0H : a2n () = some offs := d9 (ks := a2N) (rs := M5) (x := ()) trivial trivial
theorem c50 : a0m () = some cons := d9 (ks := a06) (rs := F9) (x := ()) trivial trivial
theorem b5p : ∀ x r, w8 x = some r → ∃ N, U9 N x = some r := by
 refine i0 (ks := C4) (rs := a0k) fun x hw hq => ⟨0, ?_⟩
 obtain ⟨(a : Int), (n : Int), u⟩ := x
 have hq : 0 ≤ n ∧ n < 64 := hq
 obtain ⟨ha, _⟩ := d9I.1 hw
 obtain ⟨m, rfl⟩ : ∃ m : Nat, n = m := ⟨n.toNat, by omega⟩
 have e : b87 IntKind.u64 (m : Int) 63 = m := by
  rw [show (63 : Int) = ((63 : Nat) : Int) from rfl, b5Y rfl (by simp [IntKind.bits]; omega) (by decide)]
  rw [show (63 : Nat) = 2 ^ 6 - 1 from rfl, Nat.and_two_pow_sub_one_eq_mod, Nat.mod_eq_of_lt (by omega)]
 unfold U9 rot
 dsimp only
 rw [c5E (x := (m : Int)) (by omega) (by omega), e, c5E (x := 64 - (m : Int)) (by omega) (by omega), if_neg (by omega), if_neg (by omega)]
 split
 ·rename_i h0
  have h0 : m = 0 := by omega
  subst h0
  obtain ⟨k, rfl⟩ : ∃ k : Nat, a = k := ⟨a.toNat, by omega⟩
  have h1 : b0Z IntKind.u64 (k : Int) ((0 : Nat) : Int) = k := by rw [c4N rfl (by decide) (by simp [IntKind.bits]; omega)]; simp
  have h2 : b9D IntKind.u64 (k : Int) (64 - ((0 : Nat) : Int)) = ((0 : Nat) : Int) := by
   rw [show (64 - ((0 : Nat) : Int)) = ((64 : Nat) : Int) from rfl, a9N (by decide)]
   rw [Nat.div_eq_of_lt (by omega)]
  rw [h1, h2, c4L rfl (by simp [IntKind.bits]; omega) (by decide)]
  simp
 ·rfl
theorem l3_all {a tn : List Int} {β : Type} {k : _ → Option β} : m9 (M3 26) 26 ((0 : Int), tn, a, z25, z5, z5, ()) k = k (tn, a, z25, (List.range 5).map (cF a), z5, ()) := by
 refine i9 (F := M3 26) (s := fun i => ((i : Int), tn, a, z25, part (cF a) i z5, z5, ())) (y := (tn, a, z25, (List.range 5).map (cF a), z5, ())) 5 ?_ ?_ ?_ 26 (by omega)
 ·kernel_rfl
 ·exact fun i hi kn => m3 26 a tn kn k i hi
 ·intro kn; kernel_rfl
theorem l8_all {a tn : List Int} {β : Type} {k : _ → Option β} : m9 (M4 26) 26 ((0 : Int), tn, a, z25, (List.range 5).map (cF a), z5, ()) k = k (tn, a, z25, (List.range 5).map (dF a), ()) := by
 refine i9 (F := M4 26) (s := fun i => ((i : Int), tn, a, z25, (List.range 5).map (cF a), part (dF a) i z5, ())) (y := (tn, a, z25, (List.range 5).map (dF a), ())) 5 ?_ ?_ ?_ 26 (by omega)
 ·kernel_rfl
 ·intro i hi kn
  refine (m8 26 a tn kn k i hi).trans ?_
  rw [d5W (e0Q _ _) (by omega), Option.bind_some, m8s a i hi]
 ·intro kn; kernel_rfl
theorem l14_all {a : List Int} {β : Type} {k : _ → Option β} : m9 (B5 26) 26 ((0 : Int), offs, a, z25, (List.range 5).map (dF a), z25, ()) k = k (a, z25, (List.range 25).map (bF a), ()) := by
 refine i9 (F := B5 26) (s := fun i => ((i : Int), offs, a, z25, (List.range 5).map (dF a), bAt a i, ())) (y := (a, z25, (List.range 25).map (bF a), ())) 25 ?_ ?_ ?_ 26 (by omega)
 ·kernel_rfl
 ·intro i hi kn
  refine (m14 26 a (bAt a i) kn k i hi).trans ?_
  rw [d5W (d4b _ _) (d87 i hi), Option.bind_some, e0W a i hi]
 ·intro kn
  have e : bAt a 25 = (List.range 25).map (bF a) := by
   refine List.map_congr_left fun j hj => ?_
   have hj : j < 25 := List.mem_range.1 hj
   rw [if_pos]
   unfold d43; omega
  show B5 26 β ((25 : Nat), offs, a, z25, (List.range 5).map (dF a), bAt a 25, ()) kn k = _
  rw [e]
  kernel_rfl
theorem d7j {a : List Int} (ha : a.length = 25) {β : Type} {k : _ → Option β} : m9 (B6 26) 26 ((0 : Int), a, z25, (List.range 25).map (bF a), ()) k = k (d5c a, z25, ()) := by
 refine i9 (F := B6 26) (s := fun i => ((i : Int), part (eF (bF a)) i a, z25, (List.range 25).map (bF a), ())) (y := (d5c a, z25, ())) 25 ?_ ?_ ?_ 26 (by omega)
 ·rw [b67]; rfl
 ·intro i hi kn
  refine (m20 26 a _ kn k i hi).trans ?_
  rw [c0F (by rw [ha]; exact hi)]
 ·intro kn
  show B6 26 β ((25 : Nat), part (eF (bF a)) 25 a, z25, (List.range 25).map (bF a), ()) kn k = _
  rw [C3 ha]
  kernel_rfl
theorem c3x : ∀ x r, a4D x = some r → ∃ N, a4N N x = some r := by
 refine i0 (ks := T3) (rs := T4) fun x hw hq => ⟨26, ?_⟩
 obtain ⟨(a : List Int), (tn : List Int), u⟩ := x
 have hq : tn = offs := hq
 subst hq
 have ha : u64s 25 a := c5D.1 hw.1
 unfold a4N
 refine l3_all.trans ?_
 refine l8_all.trans ?_
 refine l14_all.trans ?_
 exact d7j ha.1
theorem d7v : Kd.wf (.rp (.xs (.int .i64) 25)) offs := by
 refine ⟨rfl, fun z hz => ?_⟩
 have h : ∀ z ∈ offs, 0 ≤ z ∧ z < 64 := by decide
 have := h z hz
 exact u4.2 (by omega)
theorem d4w {a : List Int} (ha : u64s 25 a) : a4D (a, offs, ()) = some (d5c a) :=
 d9 (ks := T3) (rs := T4) (x := (a, offs, ())) ⟨c5D.2 ha, d7v, trivial⟩ rfl
theorem d8Z {a : List Int} (ha : u64s 25 a) {β : Type} {k : _ → Option β} : m9 (F8 26) 26 (cons, (0 : Int), a, z25, offs, ()) k = k (c3p a, z25, ()) := by
 refine i9 (F := F8 26) (s := fun i => (cons, (i : Int), d1j i a, z25, offs, ())) (y := (c3p a, z25, ())) 24 rfl ?_ ?_ 26 (by omega)
 ·intro i hi kn
  have hp := d3u ha i
  unfold F8
  dsimp only
  rw [if_pos (by omega), if_pos (by omega), if_pos (by omega), if_pos (by omega), d4w hp, Option.bind_some, c7 (by omega) (by omega), Int.toNat_natCast]
  rfl
 ·intro kn
  rfl
theorem c0k : ∀ x r, H2 x = some r → ∃ N, a2s N x = some r := by
 refine i0 (ks := x3) (rs := a2M) fun x hw hq => ⟨26, ?_⟩
 obtain ⟨(a : List Int), u⟩ := x
 have ha : u64s 25 a := c5D.1 hw.1
 unfold a2s
 rw [d0H, Option.bind_some, c50, Option.bind_some]
 exact (d8Z ha).trans rfl
theorem c7V {a : List Int} (ha : u64s 25 a) : H2 (a, ()) = some (c3p a) :=
 d9 (ks := x3) (rs := a2M) (x := (a, ())) ⟨c5D.2 ha, trivial⟩ trivial
end Go.Ax.TryP
set_option linter.unusedVariables false
namespace Go.Ax.TryP
open Go.Proofs
def d4i (a : List Int) (p : Nat) (x : Int) : List Int := a.set (p / 8) (x64 (at0 a (p / 8)) (b0Z .u64 x ((8 * (p % 8) : Nat) : Int)))
def c7C (rate : Nat) (s : List Int × Nat) (x : Int) : List Int × Nat := if s.2 + 1 = rate then (c3p (d4i s.1 s.2 x), 0) else (d4i s.1 s.2 x, s.2 + 1)
def b0Y (rate : Nat) (s : List Int × Nat) (l : List Int) : List Int × Nat := l.foldl (c7C rate) s
def R0 (rate : Nat) (e : Int) (s : List Int × Nat) (l : List Int) : List Int :=
 c3p (d4i (d4i (b0Y rate s l).1 (b0Y rate s l).2 e) (rate - 1) 128)
def b0o : Nat → List Int → List Int
 | 0, a => a
 | n + 1, a => c3p (b0o n a)
def c9z (a : List Int) (i : Nat) : Int := IntKind.u8.wrap (b9D .u64 (at0 a (i / 8)) ((8 * (i % 8) : Nat) : Int))
def b29 (rate : Nat) (a : List Int) (p : Nat) : Int := c9z (b0o (p / rate) a) (p % rate)
def X1 (rate : Nat) (a : List Int) (p : Nat) : List Int × Nat := (b0o ((p - 1) / rate) a, p - (p - 1) / rate * rate)
def b56 (r : Int) : Prop := 8 ≤ r ∧ r ≤ 200
abbrev Sp := List Int × Int × Int × Unit
noncomputable def D7 : Sp × Int × Unit → Option Sp := a0u (ks := [.io [.xs (.int .u64) 25, .int .i64, .int .i64], .int .u8]) (rs := [.cat [.xs (.int .u64) 25, .int .i64, .int .i64]]) (fun x => 0 ≤ x.1.2.2.1 ∧ x.1.2.2.1 < 200) fun x => (d4i x.1.1 x.1.2.2.1.toNat x.2.1, x.1.2.1, x.1.2.2.1, ())
noncomputable def O4 : Sp × Int × List (List Int) × Unit → Option Sp := a0u (ks := [.io [.xs (.int .u64) 25, .int .i64, .int .i64], .int .u8, .sls (.int .u8)]) (rs := [.cat [.xs (.int .u64) 25, .int .i64, .int .i64]])
 (fun x => b56 x.1.2.1 ∧ 0 ≤ x.1.2.2.1 ∧ x.1.2.2.1 < x.1.2.1) fun x => (R0 x.1.2.1.toNat x.2.1 (x.1.1, x.1.2.2.1.toNat) x.2.2.1.flatten, x.1.2.1, 0, ())
noncomputable def O3 : Sp × List Int × Unit → Option (Sp × List Int) := a0u (ks := [.io [.xs (.int .u64) 25, .int .i64, .int .i64], .ios (.int .u8)]) (rs := [.cat [.xs (.int .u64) 25, .int .i64, .int .i64], .xv (.int .u8)])
 (fun x => b56 x.1.2.1 ∧ 0 ≤ x.1.2.2.1 ∧ x.1.2.2.1 ≤ x.1.2.1)
 fun x => (((X1 x.1.2.1.toNat x.1.1 (x.1.2.2.1.toNat + x.2.1.length)).1, x.1.2.1, ((X1 x.1.2.1.toNat x.1.1 (x.1.2.2.1.toNat + x.2.1.length)).2 : Int), ()), (List.range x.2.1.length).map fun k => b29 x.1.2.1.toNat x.1.1 (x.1.2.2.1.toNat + k))
abbrev Xf := Bool × List Int × Int × Int × Int × Unit
noncomputable def a1k : Xf × Unit → Option (Bool × Xf) := a0u (ks := [.io [.bool, .xs (.int .u64) 25, .int .i64, .int .i64, .int .i64]]) (rs := [.bool, .cat [.bool, .xs (.int .u64) 25, .int .i64, .int .i64, .int .i64]]) (fun _ => True) fun x => (!x.1.1, x.1)
def d8H (n : Int) : Int := if n < 0 then 1 else if 1048576 < n then 3 else 0
noncomputable def a2T : Int × Unit → Option Int := a0u (ks := [.int .i64]) (rs := [.int .i64]) (fun _ => True) fun x => d8H x.1
noncomputable def o3 : Xf × Int × Unit → Option (List Int × Int × Xf) := a0u (ks := [.io [.bool, .xs (.int .u64) 25, .int .i64, .int .i64, .int .i64], .int .i64]) (rs := [.sl (.int .u8), .int .i64, .cat [.bool, .xs (.int .u64) 25, .int .i64, .int .i64, .int .i64]])
 (fun x => x.1.1 = true ∧ 0 ≤ x.2.1 ∧ x.2.1 ≤ 1048576 ∧ b56 x.1.2.2.1 ∧ 0 ≤ x.1.2.2.2.1 ∧ x.1.2.2.2.1 ≤ x.1.2.2.1)
 fun x => ((List.range x.2.1.toNat).map (fun k => b29 x.1.2.2.1.toNat x.1.2.1 (x.1.2.2.2.1.toNat + k)), 0,
  (true, (X1 x.1.2.2.1.toNat x.1.2.1 (x.1.2.2.2.1.toNat + x.2.1.toNat)).1, x.1.2.2.1, ((X1 x.1.2.2.1.toNat x.1.2.1 (x.1.2.2.2.1.toNat + x.2.1.toNat)).2 : Int), IntKind.i64.wrap (x.1.2.2.2.2.1 + x.2.1), ()))
noncomputable def Y1 : Int × List (List Int) × Unit → Option Xf := a0u (ks := [.int .i64, .sls (.int .u8)]) (rs := [.op [.bool, .xs (.int .u64) 25, .int .i64, .int .i64, .int .i64]]) (fun x => b56 x.1) fun x => (true, R0 x.1.toNat 31 (z25, 0) x.2.1.flatten, x.1, 0, 0, ())
noncomputable def D6 : List (List Int) × Unit → Option Xf := a0u (ks := [.sls (.int .u8)]) (rs := [.op [.bool, .xs (.int .u64) 25, .int .i64, .int .i64, .int .i64]]) (fun _ => True) fun x => (true, R0 168 31 (z25, 0) x.1.flatten, 168, 0, 0, ())
def a0l (rate : Nat) (e : Int) (l : List Int) (n : Nat) : List Int := (List.range n).map (b29 rate (R0 rate e (z25, 0) l))
noncomputable def S1 : List (List Int) × Unit → Option Xf := a0u (ks := [.sls (.int .u8)]) (rs := [.op [.bool, .xs (.int .u64) 25, .int .i64, .int .i64, .int .i64]]) (fun _ => True) fun x => (true, R0 136 31 (z25, 0) x.1.flatten, 136, 0, 0, ())
noncomputable def v5 : Int × Int × List (List Int) × Unit → Option (List Int × Int) := a0u (ks := [.int .i64, .int .i64, .sls (.int .u8)]) (rs := [.sl (.int .u8), .int .i64]) (fun x => (x.1 = 128 ∨ x.1 = 256) ∧ 0 ≤ x.2.1 ∧ x.2.1 ≤ 1048576) fun x => (a0l (if x.1 = 128 then 168 else 136) 31 x.2.2.1.flatten x.2.1.toNat, 0)
def shk (l : List Int) (p : Nat) : Int := b29 168 (R0 168 31 (z25, 0) l) p
def shb (l : List Int) (p : Nat) : Int := b29 136 (R0 136 31 (z25, 0) l) p
end Go.Ax.TryP
set_option linter.unusedVariables false
namespace Go.Ax.TryP
open Go.Proofs
noncomputable def p_keccak_sponge_put_E : AE := AE.of [(3, ty3), (5, ty5), (109, ty109), (110, ty110), (112, ty112)] []
noncomputable def b2C : Hints := [(3000000, [])]
noncomputable def b2D : Code := (Try.f75).body.getD .skip
abbrev D2 : List Kd := [.io [.xs (.int .u64) 25, .int .i64, .int .i64], .int .u8]
abbrev D3 : List Kd := [.cat [.xs (.int .u64) 25, .int .i64, .int .i64]]
noncomputable def V6 (N : Nat) (x : (List Int × Int × Int × Unit) × Int × Unit) : Option ((List Int × Int × Int × Unit)) :=
 if 0 ≤ (IntKind.i64.wrap (Int.tdiv x.1.2.2.1 (8:Int))) then (
 if (IntKind.i64.wrap (Int.tdiv x.1.2.2.1 (8:Int))) < 25 then (
 if ((IntKind.i64.wrap (Int.tdiv x.1.2.2.1 (8:Int))).toNat) < 25 then (
 if (IntKind.i64.wrap ((8:Int) * (Int.tmod x.1.2.2.1 (8:Int)))) < 0 then none else (
 if 0 ≤ (IntKind.i64.wrap (Int.tdiv x.1.2.2.1 (8:Int))) then (
 if (IntKind.i64.wrap (Int.tdiv x.1.2.2.1 (8:Int))) < 25 then (
 if ((IntKind.i64.wrap (Int.tdiv x.1.2.2.1 (8:Int))).toNat) < 25 then (
 some ((List.set x.1.1 ((IntKind.i64.wrap (Int.tdiv x.1.2.2.1 (8:Int))).toNat) (c1C IntKind.u64 (List.getD x.1.1 ((IntKind.i64.wrap (Int.tdiv x.1.2.2.1 (8:Int))).toNat) 0) (b0Z IntKind.u64 (IntKind.u64.wrap x.2.1) (IntKind.i64.wrap ((8:Int) * (Int.tmod x.1.2.2.1 (8:Int))))))), x.1.2.1, x.1.2.2.1, ())) else none) else none) else none)) else none) else none) else none
theorem b0l : p_keccak_sponge_put_E.Ok Try.prog := AE.of_ok (all_cons a5T (all_cons Z8 (all_cons b7p (all_cons b3c (all_cons b7q c6))))) c6
theorem b1o (hE : p_keccak_sponge_put_E.Ok Try.prog) {g : Ds D2 → Option (Rs D3)} (hg : ∀ x r, g x = some r → ∃ N, V6 N x = some r) : c8 Try.prog 75 ⟨D2, D3, g⟩ :=
 i6 (E := p_keccak_sponge_put_E) (H := b2C) (L := fun N => LT.nil) (c := b2D) (ks := D2) (rs := D3) (F := V6) hE mix Try.func75 (by kernel_rfl) (fun N => OkAll.nil) (fun _ _ => by kernel_rfl) hg
noncomputable abbrev a2B : Sig := ⟨[.io [.xs (.int .u64) 25, .int .i64, .int .i64], .int .u8], [.cat [.xs (.int .u64) 25, .int .i64, .int .i64]], D7⟩
noncomputable abbrev X4 : Sig := ⟨[.xs (.int .u64) 25], [.xs (.int .u64) 25], H2⟩
noncomputable def p_keccak_sponge_takes_E : AE := AE.of [(3, ty3), (5, ty5), (23, ty23), (35, ty35), (110, ty110), (112, ty112)] [(75, a2B), (74, X4)]
noncomputable def V7 : Hints := [(1, [0, 1, 10, 11, 12]), (4, [0, 1, 10, 11, 12, 16, 17, 18]), (2000000, [0, 1]), (2000001, [0, 1, 10, 11, 12]), (2000002, [0, 1, 10, 11, 12]), (2000003, [0, 1, 10, 11, 12, 16, 17, 18]), (3000000, [])]
noncomputable def B4 : Code := (Try.f73).body.getD .skip
noncomputable def a7i : Shape := mkS { tmps := .sc (.ptr 0 0 false) :: .sc (.int .u8) :: pv 8 (.sc (.frs b8) :: .sc (.int .i64) :: .sc (.int .i64) :: pv 3 (.sc (.fr b8) :: .sc (.int .i64) :: .sc (.int .i64) :: pv 59 [])), mem := [.live [.xs (.int .u64) (some 25), .one (.int .i64), .one (.int .i64)] (.mt 0)] } [.int, .xss, .int, .int, .xs, .int, .int, .xs, .int, .int]
abbrev W7 : Type := Int × List (List Int) × Int × Int × List Int × Int × Int × List Int × Int × Int × Unit
abbrev W8 : Type := Int × List (List Int) × Int × Int × List Int × Int × Int × Unit
noncomputable def j7 (N : Nat) (β : Type) (x : W7) (kn : W7 → Option β) (ke : W8 → Option β) : Option β :=
 if (x.2.2.2.2.2.2.1 < x.2.2.2.2.2.1) then
  if 0 ≤ x.2.2.2.2.2.2.1 then (
  if x.2.2.2.2.2.2.1 < ((List.length x.2.2.2.2.1 : Nat) : Int) then (
  (D7 ((x.2.2.2.2.2.2.2.1, x.2.2.2.2.2.2.2.2.1, x.2.2.2.2.2.2.2.2.2.1, ()), (List.getD x.2.2.2.2.1 (x.2.2.2.2.2.2.1.toNat) 0), ())).bind fun r1 => (
  if ((IntKind.i64.wrap (r1.2.2.1 + (1:Int))) = r1.2.1) then
   (H2 (r1.1, ())).bind fun r2 => (
   kn (x.1, x.2.1, x.2.2.1, x.2.2.2.1, x.2.2.2.2.1, x.2.2.2.2.2.1, (IntKind.i64.wrap (x.2.2.2.2.2.2.1 + (1:Int))), r2, r1.2.1, (0:Int), ()))
  else
   kn (x.1, x.2.1, x.2.2.1, x.2.2.2.1, x.2.2.2.2.1, x.2.2.2.2.2.1, (IntKind.i64.wrap (x.2.2.2.2.2.2.1 + (1:Int))), r1.1, r1.2.1, (IntKind.i64.wrap (r1.2.2.1 + (1:Int))), ()))) else none) else none
 else
  ke (x.1, x.2.1, x.2.2.1, x.2.2.2.1, x.2.2.2.2.2.2.2.1, x.2.2.2.2.2.2.2.2.1, x.2.2.2.2.2.2.2.2.2.1, ())
noncomputable def a6T : Go' W8 := fun y K => K (.exit 2) (fSt { tmps := .sc (.ptr 0 0 false) :: .sc (.int .u8) :: pv 8 (.sc (.frs b8) :: .sc (.int .i64) :: .sc (.int .i64) :: pv 65 []), mem := [.live [.xs (.int .u64) (some 25), .one (.int .i64), .one (.int .i64)] (.mt 0)] } [.int, .xss, .int, .int, .xs, .int, .int] y)
noncomputable def a1A (N : Nat) : LT := upd (LT.nil) 4 (o9 a7i N (j7 N) a6T)
theorem a6U (N : Nat) : OkAll p_keccak_sponge_takes_E V7 N (a1A N) (x4 B4) :=
 d7 (c := d8 4 B4) (OkAll.nil) (by kernel_rfl) (fun x => by kernel_rfl) (fun β x kn ke => by kernel_rfl)
noncomputable def a7h : Shape := mkS { tmps := .sc (.ptr 0 0 false) :: .sc (.int .u8) :: pv 8 (.sc (.frs b8) :: .sc (.int .i64) :: .sc (.int .i64) :: pv 65 []), mem := [.live [.xs (.int .u64) (some 25), .one (.int .i64), .one (.int .i64)] (.mt 0)] } [.int, .xss, .int, .int, .xs, .int, .int]
abbrev W9 : Type := Int × List Int × Int × Int × Unit
noncomputable def n9 (N : Nat) (β : Type) (x : W8) (kn : W8 → Option β) (ke : W9 → Option β) : Option β :=
 if (x.2.2.2.1 < x.2.2.1) then
  if 0 ≤ x.2.2.2.1 then (
  if x.2.2.2.1 < ((List.length x.2.1 : Nat) : Int) then (
  m9 (j7 N) N (x.1, x.2.1, x.2.2.1, x.2.2.2.1, (List.getD x.2.1 (x.2.2.2.1.toNat) []), ((List.length (List.getD x.2.1 (x.2.2.2.1.toNat) []) : Nat) : Int), (0:Int), x.2.2.2.2.1, x.2.2.2.2.2.1, x.2.2.2.2.2.2.1, ()) fun y3 => (
  kn (y3.1, y3.2.1, y3.2.2.1, (IntKind.i64.wrap (y3.2.2.2.1 + (1:Int))), y3.2.2.2.2.1, y3.2.2.2.2.2.1, y3.2.2.2.2.2.2.1, ()))) else none) else none
 else
  ke (x.1, x.2.2.2.2.1, x.2.2.2.2.2.1, x.2.2.2.2.2.2.1, ())
noncomputable def a6R : Go' W9 := fun y K => K (.exit 0) (fSt { tmps := .sc (.ptr 0 0 false) :: .sc (.int .u8) :: pv 76 [], mem := [.live [.xs (.int .u64) (some 25), .one (.int .i64), .one (.int .i64)] (.mt 0)] } [.int, .xs, .int, .int] y)
noncomputable def a1z (N : Nat) : LT := upd (a1A N) 1 (o9 a7h N (n9 N) a6R)
theorem a6S (N : Nat) : OkAll p_keccak_sponge_takes_E V7 N (a1z N) (x4 B4) :=
 d7 (c := d8 1 B4) (a6U N) (by kernel_rfl) (fun x => by kernel_rfl) (fun β x kn ke => by kernel_rfl)
abbrev z8 : List Kd := [.io [.xs (.int .u64) 25, .int .i64, .int .i64], .int .u8, .sls b8]
abbrev z9 : List Kd := [.cat [.xs (.int .u64) 25, .int .i64, .int .i64]]
noncomputable def P9 (N : Nat) (x : (List Int × Int × Int × Unit) × Int × List (List Int) × Unit) : Option ((List Int × Int × Int × Unit)) :=
 m9 (n9 N) N (x.2.1, x.2.2.1, ((List.length x.2.2.1 : Nat) : Int), (0:Int), x.1.1, x.1.2.1, x.1.2.2.1, ()) fun y4 => (
 (D7 ((y4.2.1, y4.2.2.1, y4.2.2.2.1, ()), y4.1, ())).bind fun r5 => (
 (D7 ((r5.1, r5.2.1, (IntKind.i64.wrap (r5.2.1 - (1:Int))), ()), (128:Int), ())).bind fun r6 => (
 (H2 (r6.1, ())).bind fun r7 => (
 some (r7, r6.2.1, (0:Int), ())))))
theorem a8n (e0 : c8 Try.prog 75 a2B) (e1 : c8 Try.prog 74 X4) : p_keccak_sponge_takes_E.Ok Try.prog := AE.of_ok (all_cons a5T (all_cons Z8 (all_cons G0 (all_cons a2P (all_cons b3c (all_cons b7q c6)))))) (all_cons ⟨e0, a8L⟩ (all_cons ⟨e1, a41⟩ c6))
theorem a9k (hE : p_keccak_sponge_takes_E.Ok Try.prog) {g : Ds z8 → Option (Rs z9)} (hg : ∀ x r, g x = some r → ∃ N, P9 N x = some r) : c8 Try.prog 73 ⟨z8, z9, g⟩ :=
 i6 (E := p_keccak_sponge_takes_E) (H := V7) (L := fun N => a1z N) (c := B4) (ks := z8) (rs := z9) (F := P9) hE mix Try.func73 (by kernel_rfl) (fun N => a6S N) (fun _ _ => by kernel_rfl) hg
noncomputable def p_keccak_sponge_gives_E : AE := AE.of [(3, ty3), (5, ty5), (23, ty23), (109, ty109), (110, ty110), (112, ty112)] [(74, X4)]
noncomputable def a3N : Hints := [(1, [0, 1, 6, 7]), (2000000, []), (2000001, [0, 1, 6, 7]), (3000000, [])]
noncomputable def V5 : Code := (Try.f72).body.getD .skip
noncomputable def a7g : Shape := mkS { tmps := .sc (.ptr 0 0 false) :: .sc (.vec 1 none 1) :: pv 4 (.sc (.int .i64) :: .sc (.int .i64) :: pv 51 []), mem := [.live [.xs (.int .u64) (some 25), .one (.int .i64), .one (.int .i64)] (.mt 0), .live [.xs b8 none] (.mt 1)] } [.nat, .int, .int, .xs, .int, .int, .nat, .xs]
abbrev W10 : Type := Nat × Int × Int × List Int × Int × Int × Nat × List Int × Unit
abbrev W11 : Type := List Int × Int × Int × Nat × List Int × Unit
noncomputable def n8 (N : Nat) (β : Type) (x : W10) (kn : W10 → Option β) (ke : W11 → Option β) : Option β :=
 if (x.2.2.1 < x.2.1) then
  if (x.2.2.2.2.2.1 = x.2.2.2.2.1) then
   (H2 (x.2.2.2.1, ())).bind fun r1 => (
   if 0 ≤ (IntKind.i64.wrap (Int.tdiv (0:Int) (8:Int))) then (
   if (IntKind.i64.wrap (Int.tdiv (0:Int) (8:Int))) < 25 then (
   if ((IntKind.i64.wrap (Int.tdiv (0:Int) (8:Int))).toNat) < 25 then (
   if (IntKind.i64.wrap ((8:Int) * (Int.tmod (0:Int) (8:Int)))) < 0 then none else (
   if 0 ≤ x.2.2.1 then (
   if x.2.2.1 < ((x.1 : Nat) : Int) then (
   if (x.2.2.1.toNat) < x.2.2.2.2.2.2.1 then (
   kn (x.1, x.2.1, (IntKind.i64.wrap (x.2.2.1 + (1:Int))), r1, x.2.2.2.2.1, (IntKind.i64.wrap ((0:Int) + (1:Int))), x.2.2.2.2.2.2.1, (List.set x.2.2.2.2.2.2.2.1 (x.2.2.1.toNat) (IntKind.u8.wrap (b9D IntKind.u64 (List.getD r1 ((IntKind.i64.wrap (Int.tdiv (0:Int) (8:Int))).toNat) 0) (IntKind.i64.wrap ((8:Int) * (Int.tmod (0:Int) (8:Int))))))), ())) else none) else none) else none)) else none) else none) else none)
  else
   if 0 ≤ (IntKind.i64.wrap (Int.tdiv x.2.2.2.2.2.1 (8:Int))) then (
   if (IntKind.i64.wrap (Int.tdiv x.2.2.2.2.2.1 (8:Int))) < 25 then (
   if ((IntKind.i64.wrap (Int.tdiv x.2.2.2.2.2.1 (8:Int))).toNat) < 25 then (
   if (IntKind.i64.wrap ((8:Int) * (Int.tmod x.2.2.2.2.2.1 (8:Int)))) < 0 then none else (
   if 0 ≤ x.2.2.1 then (
   if x.2.2.1 < ((x.1 : Nat) : Int) then (
   if (x.2.2.1.toNat) < x.2.2.2.2.2.2.1 then (
   kn (x.1, x.2.1, (IntKind.i64.wrap (x.2.2.1 + (1:Int))), x.2.2.2.1, x.2.2.2.2.1, (IntKind.i64.wrap (x.2.2.2.2.2.1 + (1:Int))), x.2.2.2.2.2.2.1, (List.set x.2.2.2.2.2.2.2.1 (x.2.2.1.toNat) (IntKind.u8.wrap (b9D IntKind.u64 (List.getD x.2.2.2.1 ((IntKind.i64.wrap (Int.tdiv x.2.2.2.2.2.1 (8:Int))).toNat) 0) (IntKind.i64.wrap ((8:Int) * (Int.tmod x.2.2.2.2.2.1 (8:Int))))))), ())) else none) else none) else none)) else none) else none) else none
 else
  ke (x.2.2.2.1, x.2.2.2.2.1, x.2.2.2.2.2.1, x.2.2.2.2.2.2.1, x.2.2.2.2.2.2.2.1, ())
noncomputable def a6P : Go' W11 := fun y K => K (.exit 0) (fSt { tmps := pv 59 [], mem := [.live [.xs (.int .u64) (some 25), .one (.int .i64), .one (.int .i64)] (.mt 0), .live [.xs b8 none] (.mt 1)] } [.xs, .int, .int, .nat, .xs] y)
noncomputable def a1y (N : Nat) : LT := upd (LT.nil) 1 (o9 a7g N (n8 N) a6P)
theorem a6Q (N : Nat) : OkAll p_keccak_sponge_gives_E a3N N (a1y N) (x4 V5) :=
 d7 (c := d8 1 V5) (OkAll.nil) (by kernel_rfl) (fun x => by kernel_rfl) (fun β x kn ke => by kernel_rfl)
abbrev z6 : List Kd := [.io [.xs (.int .u64) 25, .int .i64, .int .i64], .ios b8]
abbrev z7 : List Kd := [.cat [.xs (.int .u64) 25, .int .i64, .int .i64], .xv b8]
noncomputable def P8 (N : Nat) (x : (List Int × Int × Int × Unit) × List Int × Unit) : Option ((List Int × Int × Int × Unit) × List Int) :=
 m9 (n8 N) N ((List.length x.2.1), (((List.length x.2.1) : Nat) : Int), (0:Int), x.1.1, x.1.2.1, x.1.2.2.1, (List.length x.2.1), x.2.1, ()) fun y2 => (
 some ((y2.1, y2.2.1, y2.2.2.1, ()), y2.2.2.2.2.1))
theorem a8m (e0 : c8 Try.prog 74 X4) : p_keccak_sponge_gives_E.Ok Try.prog := AE.of_ok (all_cons a5T (all_cons Z8 (all_cons G0 (all_cons b7p (all_cons b3c (all_cons b7q c6)))))) (all_cons ⟨e0, a41⟩ c6)
theorem a9j (hE : p_keccak_sponge_gives_E.Ok Try.prog) {g : Ds z6 → Option (Rs z7)} (hg : ∀ x r, g x = some r → ∃ N, P8 N x = some r) : c8 Try.prog 72 ⟨z6, z7, g⟩ :=
 i6 (E := p_keccak_sponge_gives_E) (H := a3N) (L := fun N => a1y N) (c := V5) (ks := z6) (rs := z7) (F := P8) hE mix Try.func72 (by kernel_rfl) (fun N => a6Q N) (fun _ _ => by kernel_rfl) hg
noncomputable def p_keccak_Xof_none_E : AE := AE.of [(4, ty4), (102, ty102), (114, ty114)] []
noncomputable def b5h : Hints := [(3000000, [2])]
noncomputable def b5i : Code := (Try.f71).body.getD .skip
abbrev I8 : List Kd := [.io [.bool, .xs (.int .u64) 25, .int .i64, .int .i64, .int .i64]]
abbrev I9 : List Kd := [.bool, .cat [.bool, .xs (.int .u64) 25, .int .i64, .int .i64, .int .i64]]
noncomputable def a4v (N : Nat) (x : (Bool × List Int × Int × Int × Int × Unit) × Unit) : Option (Bool × (Bool × List Int × Int × Int × Int × Unit)) :=
 some ((decide (¬ (x.1.1 = true))), ((decide (x.1.1 = true)), x.1.2.1, x.1.2.2.1, x.1.2.2.2.1, x.1.2.2.2.2.1, ()))
theorem b2w : p_keccak_Xof_none_E.Ok Try.prog := AE.of_ok (all_cons c2R (all_cons d5H (all_cons c5x c6))) c6
theorem b3L (hE : p_keccak_Xof_none_E.Ok Try.prog) {g : Ds I8 → Option (Rs I9)} (hg : ∀ x r, g x = some r → ∃ N, a4v N x = some r) : c8 Try.prog 71 ⟨I8, I9, g⟩ :=
 i6 (E := p_keccak_Xof_none_E) (H := b5h) (L := fun N => LT.nil) (c := b5i) (ks := I8) (rs := I9) (F := a4v) hE mix Try.func71 (by kernel_rfl) (fun N => OkAll.nil) (fun _ _ => by kernel_rfl) hg
noncomputable def p_keccak_may_E : AE := AE.of [] []
noncomputable def c3k : Hints := [(2000000, []), (3000000, [2])]
noncomputable def c3l : Code := (Try.f62).body.getD .skip
abbrev a6L : List Kd := [.int .i64]
abbrev a6M : List Kd := [.int .i64]
noncomputable def a7M (N : Nat) (x : Int × Unit) : Option (Int) :=
 if (x.1 < (0:Int)) then
  some (1:Int)
 else
  if (x.1 > (1048576:Int)) then
   some (3:Int)
  else
   some (0:Int)
theorem c0b : p_keccak_may_E.Ok Try.prog := AE.of_ok c6 c6
theorem c2h (hE : p_keccak_may_E.Ok Try.prog) {g : Ds [.int .i64] → Option (Rs [.int .i64])} (hg : ∀ x r, g x = some r → ∃ N, a7M N x = some r) : c8 Try.prog 62 ⟨[.int .i64], [.int .i64], g⟩ :=
 i6 (E := p_keccak_may_E) (H := c3k) (L := fun N => LT.nil) (c := c3l) (ks := a6L) (rs := a6M) (F := a7M) hE mix Try.func62 (by kernel_rfl) (fun N => OkAll.nil) (fun _ _ => by kernel_rfl) hg
noncomputable abbrev a4a : Sig := ⟨[.io [.bool, .xs (.int .u64) 25, .int .i64, .int .i64, .int .i64]], [.bool, .cat [.bool, .xs (.int .u64) 25, .int .i64, .int .i64, .int .i64]], a1k⟩
noncomputable abbrev a4Y : Sig := ⟨[.int .i64], [.int .i64], a2T⟩
noncomputable abbrev a0y : Sig := ⟨[.io [.xs (.int .u64) 25, .int .i64, .int .i64], .ios b8], [.cat [.xs (.int .u64) 25, .int .i64, .int .i64], .xv b8], O3⟩
noncomputable def p_keccak_Xof_Read_E : AE := AE.of [(3, ty3), (5, ty5), (23, ty23), (112, ty112), (114, ty114)] [(71, a4a), (62, a4Y), (72, a0y)]
noncomputable def b5f : Hints := [(3000000, [4, 5])]
noncomputable def b5g : Code := (Try.f64).body.getD .skip
abbrev I6 : List Kd := [.io [.bool, .xs (.int .u64) 25, .int .i64, .int .i64, .int .i64], .int .i64]
abbrev I7 : List Kd := [.sl b8, .int .i64, .cat [.bool, .xs (.int .u64) 25, .int .i64, .int .i64, .int .i64]]
noncomputable def a1t (N : Nat) (x : (Bool × List Int × Int × Int × Int × Unit) × Int × Unit) : Option (List Int × Int × (Bool × List Int × Int × Int × Int × Unit)) :=
 (a1k (((decide (x.1.1 = true)), x.1.2.1, x.1.2.2.1, x.1.2.2.2.1, x.1.2.2.2.2.1, ()), ())).bind fun r1 => (
 if (r1.1 = true) then
  some ([], (2:Int), ((decide (r1.2.1 = true)), r1.2.2.1, r1.2.2.2.1, r1.2.2.2.2.1, r1.2.2.2.2.2.1, ()))
 else
  (a2T (x.2.1, ())).bind fun r2 => (
  if (r2 ≠ (0:Int)) then
   some ([], r2, ((decide (r1.2.1 = true)), r1.2.2.1, r1.2.2.2.1, r1.2.2.2.2.1, r1.2.2.2.2.2.1, ()))
  else
   if 0 ≤ x.2.1 then (
   if x.2.1 = x.2.1 then (
   if x.2.1 * 1 ≤ 281474976710656 then (
   (O3 ((r1.2.2.1, r1.2.2.2.1, r1.2.2.2.2.1, ()), (List.replicate (x.2.1.toNat) 0), ())).bind fun r3 => (
   if (List.length r3.2) = (x.2.1.toNat) then (
   some (r3.2, (0:Int), ((decide (r1.2.1 = true)), r3.1.1, r3.1.2.1, r3.1.2.2.1, (IntKind.i64.wrap (r1.2.2.2.2.2.1 + x.2.1)), ()))) else none)) else none) else none) else none))
theorem b2v (e0 : c8 Try.prog 71 a4a) (e1 : c8 Try.prog 62 a4Y) (e2 : c8 Try.prog 72 a0y) : p_keccak_Xof_Read_E.Ok Try.prog := AE.of_ok (all_cons a5T (all_cons Z8 (all_cons G0 (all_cons b7q (all_cons c5x c6))))) (all_cons ⟨e0, b0X⟩ (all_cons ⟨e1, a8K⟩ (all_cons ⟨e2, a68⟩ c6)))
theorem b3K (hE : p_keccak_Xof_Read_E.Ok Try.prog) {g : Ds I6 → Option (Rs I7)} (hg : ∀ x r, g x = some r → ∃ N, a1t N x = some r) : c8 Try.prog 64 ⟨I6, I7, g⟩ :=
 i6 (E := p_keccak_Xof_Read_E) (H := b5f) (L := fun N => LT.nil) (c := b5g) (ks := I6) (rs := I7) (F := a1t) hE mix Try.func64 (by kernel_rfl) (fun N => OkAll.nil) (fun _ _ => by kernel_rfl) hg
noncomputable abbrev a0z : Sig := ⟨[.io [.xs (.int .u64) 25, .int .i64, .int .i64], .int .u8, .sls b8], [.cat [.xs (.int .u64) 25, .int .i64, .int .i64]], O4⟩
noncomputable def p_keccak_started_E : AE := AE.of [(3, ty3), (4, ty4), (110, ty110), (112, ty112), (114, ty114)] [(73, a0z)]
noncomputable def b6U : Hints := [(3000000, [4])]
noncomputable def b6V : Code := (Try.f70).body.getD .skip
abbrev M6 : List Kd := [.int .i64, .sls b8]
abbrev M7 : List Kd := [.op [.bool, .xs (.int .u64) 25, .int .i64, .int .i64, .int .i64]]
noncomputable def a2t (N : Nat) (x : Int × List (List Int) × Unit) : Option ((Bool × List Int × Int × Int × Int × Unit)) :=
 (O4 (((List.replicate 25 0), (List.getD (List.set [0] 0 x.1) 0 0), (List.getD [0] 0 0), ()), (31:Int), x.2.1, ())).bind fun r1 => (
 some (((List.getD (List.set [0] 0 (1:Int)) 0 0) != 0), r1.1, r1.2.1, r1.2.2.1, (List.getD [0] 0 0), ()))
theorem b3V (e0 : c8 Try.prog 73 a0z) : p_keccak_started_E.Ok Try.prog := AE.of_ok (all_cons a5T (all_cons c2R (all_cons b3c (all_cons b7q (all_cons c5x c6))))) (all_cons ⟨e0, a69⟩ c6)
theorem b5m (hE : p_keccak_started_E.Ok Try.prog) {g : Ds M6 → Option (Rs M7)} (hg : ∀ x r, g x = some r → ∃ N, a2t N x = some r) : c8 Try.prog 70 ⟨M6, M7, g⟩ :=
 i6 (E := p_keccak_started_E) (H := b6U) (L := fun N => LT.nil) (c := b6V) (ks := M6) (rs := M7) (F := a2t) hE mix Try.func70 (by kernel_rfl) (fun N => OkAll.nil) (fun _ _ => by kernel_rfl) hg
noncomputable abbrev X5 : Sig := ⟨[.int .i64, .sls b8], [.op [.bool, .xs (.int .u64) 25, .int .i64, .int .i64, .int .i64]], Y1⟩
noncomputable def p_keccak_Shake128_E : AE := AE.of [] [(70, X5)]
noncomputable def b5b : Hints := [(3000000, [2])]
noncomputable def b5c : Code := (Try.f63).body.getD .skip
abbrev I2 : List Kd := [.sls b8]
abbrev I3 : List Kd := [.op [.bool, .xs (.int .u64) 25, .int .i64, .int .i64, .int .i64]]
noncomputable def a1r (N : Nat) (x : List (List Int) × Unit) : Option ((Bool × List Int × Int × Int × Int × Unit)) :=
 (Y1 ((168:Int), x.1, ())).bind fun r1 => (
 some ((decide (r1.1 = true)), r1.2.1, r1.2.2.1, r1.2.2.2.1, r1.2.2.2.2.1, ()))
theorem b2t (e0 : c8 Try.prog 70 X5) : p_keccak_Shake128_E.Ok Try.prog := AE.of_ok c6 (all_cons ⟨e0, a42⟩ c6)
theorem b3I (hE : p_keccak_Shake128_E.Ok Try.prog) {g : Ds I2 → Option (Rs I3)} (hg : ∀ x r, g x = some r → ∃ N, a1r N x = some r) : c8 Try.prog 63 ⟨I2, I3, g⟩ :=
 i6 (E := p_keccak_Shake128_E) (H := b5b) (L := fun N => LT.nil) (c := b5c) (ks := I2) (rs := I3) (F := a1r) hE mix Try.func63 (by kernel_rfl) (fun N => OkAll.nil) (fun _ _ => by kernel_rfl) hg
noncomputable def p_keccak_Shake256_E : AE := AE.of [] [(70, X5)]
noncomputable def b5d : Hints := [(3000000, [2])]
noncomputable def b5e : Code := (Try.f65).body.getD .skip
abbrev I4 : List Kd := [.sls b8]
abbrev I5 : List Kd := [.op [.bool, .xs (.int .u64) 25, .int .i64, .int .i64, .int .i64]]
noncomputable def a1s (N : Nat) (x : List (List Int) × Unit) : Option ((Bool × List Int × Int × Int × Int × Unit)) :=
 (Y1 ((136:Int), x.1, ())).bind fun r1 => (
 some ((decide (r1.1 = true)), r1.2.1, r1.2.2.1, r1.2.2.2.1, r1.2.2.2.2.1, ()))
theorem b2u (e0 : c8 Try.prog 70 X5) : p_keccak_Shake256_E.Ok Try.prog := AE.of_ok c6 (all_cons ⟨e0, a42⟩ c6)
theorem b3J (hE : p_keccak_Shake256_E.Ok Try.prog) {g : Ds I4 → Option (Rs I5)} (hg : ∀ x r, g x = some r → ∃ N, a1s N x = some r) : c8 Try.prog 65 ⟨I4, I5, g⟩ :=
 i6 (E := p_keccak_Shake256_E) (H := b5d) (L := fun N => LT.nil) (c := b5e) (ks := I4) (rs := I5) (F := a1s) hE mix Try.func65 (by kernel_rfl) (fun N => OkAll.nil) (fun _ _ => by kernel_rfl) hg
noncomputable abbrev R9 : Sig := ⟨[.sls b8], [.op [.bool, .xs (.int .u64) 25, .int .i64, .int .i64, .int .i64]], D6⟩
noncomputable abbrev S0 : Sig := ⟨[.io [.bool, .xs (.int .u64) 25, .int .i64, .int .i64, .int .i64], .int .i64], [.sl b8, .int .i64, .cat [.bool, .xs (.int .u64) 25, .int .i64, .int .i64, .int .i64]], o3⟩
noncomputable abbrev a39 : Sig := ⟨[.sls b8], [.op [.bool, .xs (.int .u64) 25, .int .i64, .int .i64, .int .i64]], S1⟩
noncomputable def p_keccak_Shake_E : AE := AE.of [] [(62, a4Y), (63, R9), (64, S0), (65, a39)]
noncomputable def b99 : Hints := [(3000000, [6, 7])]
noncomputable def c0a : Code := (Try.f42).body.getD .skip
abbrev T1 : List Kd := [.int .i64, .int .i64, .sls b8]
abbrev T2 : List Kd := [.sl b8, .int .i64]
noncomputable def a4M (N : Nat) (x : Int × Int × List (List Int) × Unit) : Option (List Int × Int) :=
 if (x.1 ≠ (128:Int)) then
  if (x.1 ≠ (256:Int)) then
   some ([], (1:Int))
  else
   (a2T (x.2.1, ())).bind fun r1 => (
   if (r1 ≠ (0:Int)) then
    some ([], r1)
   else
    if (x.1 = (128:Int)) then
     (D6 (x.2.2.1, ())).bind fun r2 => (
     (o3 (((decide (r2.1 = true)), r2.2.1, r2.2.2.1, r2.2.2.2.1, r2.2.2.2.2.1, ()), x.2.1, ())).bind fun r3 => (
     some (r3.1, r3.2.1)))
    else
     (S1 (x.2.2.1, ())).bind fun r4 => (
     (o3 (((decide (r4.1 = true)), r4.2.1, r4.2.2.1, r4.2.2.2.1, r4.2.2.2.2.1, ()), x.2.1, ())).bind fun r5 => (
     some (r5.1, r5.2.1))))
 else
  (a2T (x.2.1, ())).bind fun r6 => (
  if (r6 ≠ (0:Int)) then
   some ([], r6)
  else
   if (x.1 = (128:Int)) then
    (D6 (x.2.2.1, ())).bind fun r7 => (
    (o3 (((decide (r7.1 = true)), r7.2.1, r7.2.2.1, r7.2.2.2.1, r7.2.2.2.2.1, ()), x.2.1, ())).bind fun r8 => (
    some (r8.1, r8.2.1)))
   else
    (S1 (x.2.2.1, ())).bind fun r9 => (
    (o3 (((decide (r9.1 = true)), r9.2.1, r9.2.2.1, r9.2.2.2.1, r9.2.2.2.2.1, ()), x.2.1, ())).bind fun r10 => (
    some (r10.1, r10.2.1))))
theorem b6Q (e0 : c8 Try.prog 62 a4Y) (e1 : c8 Try.prog 63 R9) (e2 : c8 Try.prog 64 S0) (e3 : c8 Try.prog 65 a39) : p_keccak_Shake_E.Ok Try.prog := AE.of_ok c6 (all_cons ⟨e0, a8K⟩ (all_cons ⟨e1, a3X⟩ (all_cons ⟨e2, a3Y⟩ (all_cons ⟨e3, b0W⟩ c6))))
theorem b8A (hE : p_keccak_Shake_E.Ok Try.prog) {g : Ds T1 → Option (Rs T2)} (hg : ∀ x r, g x = some r → ∃ N, a4M N x = some r) : c8 Try.prog 42 ⟨T1, T2, g⟩ :=
 i6 (E := p_keccak_Shake_E) (H := b99) (L := fun N => LT.nil) (c := c0a) (ks := T1) (rs := T2) (F := a4M) hE mix Try.func42 (by kernel_rfl) (fun N => OkAll.nil) (fun _ _ => by kernel_rfl) hg
end Go.Ax.TryP
set_option linter.unusedVariables false
namespace Go.Ax.TryP
open Go.Proofs
theorem c7b : ∀ x r, a2T x = some r → ∃ N, a7M N x = some r := by
 refine i0 (ks := a6L) (rs := a6M) fun x hw hq => ⟨0, ?_⟩
 obtain ⟨(n : Int), u⟩ := x
 unfold a7M d8H
 dsimp only
 split
 ·rfl
 ·split
  ·rfl
  ·rfl
theorem b8O : ∀ x r, a1k x = some r → ∃ N, a4v N x = some r := by
 refine i0 (ks := I8) (rs := I9) fun x hw hq => ⟨0, ?_⟩
 obtain ⟨⟨(b : Bool), a, r, p, c, u⟩, v⟩ := x
 cases b <;> rfl
theorem d9z {p : Nat} : Int.tdiv (p : Int) 8 = ((p / 8 : Nat) : Int) := by rw [b0v (by omega)]; omega
theorem d9B {p : Nat} : Int.tmod (p : Int) 8 = ((p % 8 : Nat) : Int) := by rw [b0w (by omega)]; omega
theorem b5t : ∀ x r, D7 x = some r → ∃ N, V6 N x = some r := by
 refine i0 (ks := D2) (rs := D3) fun x hw hq => ⟨0, ?_⟩
 obtain ⟨⟨(a : List Int), (r : Int), (p : Int), u⟩, (z : Int), v⟩ := x
 have hq : 0 ≤ p ∧ p < 200 := hq
 have hz : 0 ≤ z ∧ z ≤ 255 := a0n.1 hw.2.1
 obtain ⟨m, rfl⟩ : ∃ m : Nat, p = m := ⟨p.toNat, by omega⟩
 unfold V6
 dsimp only
 rw [d9z, d9B, c7 (by omega) (by omega), c7 (by omega) (by omega), c5E (by omega) (by omega), Int.toNat_natCast, if_pos (by omega), if_pos (by omega), if_pos (by omega), if_neg (by omega), if_pos (by omega), if_pos (by omega), if_pos (by omega)]
 rfl
theorem d39 {a : List Int} {r p : Int} : c5G [.xs (.int .u64) 25, .int .i64, .int .i64] (a, r, p, ()) ↔ u64s 25 a ∧ (-9223372036854775808 ≤ r ∧ r ≤ 9223372036854775807) ∧ (-9223372036854775808 ≤ p ∧ p ≤ 9223372036854775807) := by
 have h1 : FK.wf (.xs (.int .u64) 25) a ↔ u64s 25 a := by simp [FK.wf, u64s, rows, b55]
 have h2 : FK.wf (.int .i64) r ↔ _ := u4
 have h3 : FK.wf (.int .i64) p ↔ _ := u4
 simp only [c5G, h1, h2, h3, and_true]
theorem c8E {a : List Int} (h : u64s 25 a) : ∀ n : Nat, u64s 25 (b0o n a)
 | 0 => h
 | n + 1 => c8D (c8E h n)
theorem d3T {rate : Nat} (hr : 0 < rate) (a : List Int) {p : Nat} (h : (X1 rate a p).2 = rate) : p / rate = (p - 1) / rate + 1 ∧ p % rate = 0 := by
 unfold X1 at h
 dsimp only at h
 have e := Nat.div_add_mod (p - 1) rate
 have e1 := Nat.mod_lt (p - 1) hr
 generalize hq : (p - 1) / rate = q at *
 rw [Nat.mul_comm] at e
 have hp : p = (q + 1) * rate := by rw [Nat.add_mul, Nat.one_mul]; omega
 rw [hp]
 exact ⟨Nat.mul_div_cancel _ hr, Nat.mul_mod_left _ _⟩
theorem d3V {rate : Nat} (hr : 0 < rate) (a : List Int) {p : Nat} (h : (X1 rate a p).2 ≠ rate) : p / rate = (p - 1) / rate ∧ p % rate = (X1 rate a p).2 ∧ (X1 rate a p).2 < rate := by
 unfold X1 at *
 dsimp only at *
 have e := Nat.div_add_mod (p - 1) rate
 have e1 := Nat.mod_lt (p - 1) hr
 generalize hq : (p - 1) / rate = q at *
 rw [Nat.mul_comm] at e
 have h1 : q * rate ≤ p := by omega
 have h2 : p - q * rate < rate := by omega
 have hp : p = (p - q * rate) + rate * q := by rw [Nat.mul_comm rate]; omega
 refine ⟨?_, ?_, h2⟩
 ·rw [hp, Nat.add_mul_div_left _ _ hr, Nat.div_eq_of_lt h2]; omega
 ·conv => lhs; rw [hp, Nat.add_mul_mod_self_left]
  exact Nat.mod_eq_of_lt h2
theorem d3U {rate : Nat} (hr : 0 < rate) (a : List Int) (p : Nat) : X1 rate a (p + 1) = (b0o (p / rate) a, p % rate + 1) := by
 unfold X1
 have e := Nat.div_add_mod p rate
 rw [Nat.mul_comm] at e
 rw [Nat.add_sub_cancel]
 congr 1
 omega
theorem b8W {rate : Nat} (a : List Int) {p : Nat} (hr : 0 < rate) (hp : p ≤ rate) : X1 rate a p = (a, p) := by
 unfold X1
 rw [Nat.div_eq_of_lt (by omega)]
 simp [b0o]
theorem d03 {rate n : Nat} {a out : List Int} {p i : Nat} (ha : u64s 25 a) (hr : 8 ≤ rate ∧ rate ≤ 200) (hn : out.length = n) (hb : n ≤ maxLen) (hi : i < n) {β : Type} (N : Nat) (kn : _ → Option β) (k : _ → Option β) :
  n8 N β (n, (n : Int), (i : Int), (X1 rate a (p + i)).1, (rate : Int), ((X1 rate a (p + i)).2 : Int), n, part (fun k => b29 rate a (p + k)) i out, ()) kn k
  = kn (n, (n : Int), ((i + 1 : Nat) : Int), (X1 rate a (p + (i + 1))).1, (rate : Int), ((X1 rate a (p + (i + 1))).2 : Int), n, part (fun k => b29 rate a (p + k)) (i + 1) out, ()) := by
 have hm : maxLen ≤ 9223372036854775807 := by decide
 have h0 : 0 < rate := by omega
 have hu : u64s 25 (b0o ((p + i - 1) / rate) a) := c8E ha _
 have hnext := d3U h0 a (p + i)
 have hset : (part (fun k => b29 rate a (p + k)) i out).set i (b29 rate a (p + i)) = part (fun k => b29 rate a (p + k)) (i + 1) out := c0F (h := fun k => b29 rate a (p + k)) (by omega)
 unfold n8
 dsimp only
 rw [if_pos (by omega)]
 by_cases h : (X1 rate a (p + i)).2 = rate
 ·obtain ⟨h1, h2⟩ := d3T h0 a h
  rw [if_pos (by omega)]
  have e : H2 ((X1 rate a (p + i)).1, ()) = some (b0o ((p + i) / rate) a) := by
   rw [h1]; exact c7V hu
  rw [e, Option.bind_some]
  have c1 : IntKind.i64.wrap (Int.tdiv 0 8) = 0 := by decide
  have c2 : IntKind.i64.wrap (8 * Int.tmod 0 8) = 0 := by decide
  rw [c1, c2, if_pos (by omega), if_pos (by omega), if_pos (by decide), if_neg (by omega), if_pos (by omega), if_pos (by omega), if_pos (by omega), Int.toNat_natCast, c7 (by omega) (by omega)]
  rw [show p + (i + 1) = p + i + 1 by omega, hnext, h2]
  have c3 : IntKind.u8.wrap (b9D IntKind.u64 (List.getD (b0o ((p + i) / rate) a) (Int.toNat 0) 0) 0) = b29 rate a (p + i) := by
   unfold b29; rw [h2]; rfl
  rw [c3, hset]
  rfl
 ·obtain ⟨h1, h2, h3⟩ := d3V h0 a h
  rw [if_neg (by omega)]
  have e : (X1 rate a (p + i)).1 = b0o ((p + i) / rate) a := by rw [h1]; rfl
  rw [e, ← h2, d9z, d9B, c7 (by omega) (by omega), c7 (x := 8 * (((p + i) % rate % 8 : Nat) : Int)) (by omega) (by omega), Int.toNat_natCast, if_pos (by omega), if_pos (by omega), if_pos (by omega), if_neg (by omega), if_pos (by omega), if_pos (by omega), if_pos (by omega), Int.toNat_natCast, c7 (by omega) (by omega), c7 (by omega) (by omega)]
  rw [show p + (i + 1) = p + i + 1 by omega, hnext]
  have c3 : IntKind.u8.wrap (b9D IntKind.u64 (List.getD (b0o ((p + i) / rate) a) ((p + i) % rate / 8) 0) (8 * (((p + i) % rate % 8 : Nat) : Int))) = b29 rate a (p + i) := rfl
  rw [c3, hset]
  rfl
theorem b2F : ∀ x r, O3 x = some r → ∃ N, P8 N x = some r := by
 refine i0 (ks := z6) (rs := z7) fun x hw hq => ?_
 obtain ⟨⟨(a : List Int), (r : Int), (p : Int), u⟩, (out : List Int), v⟩ := x
 obtain ⟨ha, _, _⟩ := d39.1 hw.1
 have hl : out.length ≤ maxLen := hw.2.1.1
 obtain ⟨hr, hp0, hp1⟩ : (8 ≤ r ∧ r ≤ 200) ∧ 0 ≤ p ∧ p ≤ r := hq
 obtain ⟨rate, rfl⟩ : ∃ m : Nat, r = m := ⟨r.toNat, by omega⟩
 obtain ⟨q, rfl⟩ : ∃ m : Nat, p = m := ⟨p.toNat, by omega⟩
 generalize hn : out.length = n at *
 refine ⟨n + 1, ?_⟩
 unfold P8
 dsimp only
 rw [hn]
 refine (i9 (F := n8 (n + 1)) (s := fun i => (n, (n : Int), (i : Int), (X1 rate a (q + i)).1, (rate : Int), ((X1 rate a (q + i)).2 : Int), n, part (fun k => b29 rate a (q + k)) i out, ()))
  (y := ((X1 rate a (q + n)).1, (rate : Int), ((X1 rate a (q + n)).2 : Int), n, (List.range n).map (fun k => b29 rate a (q + k)), ())) n ?_ ?_ ?_ (n + 1) (by omega)).trans ?_
 ·rw [Nat.add_zero, b8W a (by omega) (by omega), b67]
  rfl
 ·exact fun i hi kn => d03 ha (by omega) hn hl hi _ kn _
 ·intro kn
  unfold n8
  dsimp only
  rw [if_neg (by omega), C3 hn]
 ·dsimp only
  rw [Int.toNat_natCast, Int.toNat_natCast]
theorem b9e {a : List Int} (h : u64s 25 a) (p : Nat) (x : Int) : u64s 25 (d4i a p x) := rows.set h (d4b _ _)
def d5f (rate : Nat) (s : List Int × Nat) : Prop := u64s 25 s.1 ∧ s.2 < rate
theorem d5C {rate : Nat} {s : List Int × Nat} (h : d5f rate s) (x : Int) : d5f rate (c7C rate s x) := by
 have h1 := h.2
 unfold c7C
 split
 ·exact ⟨c8D (b9e h.1 _ _), by show 0 < rate; omega⟩
 ·exact ⟨b9e h.1 _ _, by show s.2 + 1 < rate; omega⟩
theorem c1q {rate : Nat} : ∀ {s : List Int × Nat} (l : List Int), d5f rate s → d5f rate (b0Y rate s l)
 | s, [], h => h
 | s, x :: l, h => c1q l (d5C h x)
theorem c1p (rate : Nat) (s : List Int × Nat) (l m : List Int) : b0Y rate s (l ++ m) = b0Y rate (b0Y rate s l) m := by simp [b0Y, List.foldl_append]
theorem d4U (rate : Nat) (s : List Int × Nat) (x : Int) : b0Y rate s [x] = c7C rate s x := rfl
theorem d15 {a : List Int} {r : Int} {p : Nat} {x : Int} (h : u64s 25 a) (hr : b56 r) (hp : p < 200) (hx : 0 ≤ x ∧ x ≤ 255) : D7 ((a, r, (p : Int), ()), x, ()) = some (d4i a p x, r, (p : Int), ()) := by
 have hr' : 8 ≤ r ∧ r ≤ 200 := hr
 have := d9 (ks := D2) (rs := D3) (x := ((a, r, (p : Int), ()), x, ())) (Q := fun x => 0 ≤ x.1.2.2.1 ∧ x.1.2.2.1 < 200) (f := fun x => (d4i x.1.1 x.1.2.2.1.toNat x.2.1, x.1.2.1, x.1.2.2.1, ()))
  ⟨d39.2 ⟨h, by omega, by omega⟩, a0n.2 hx, trivial⟩ ⟨by show (0 : Int) ≤ p; omega, by show (p : Int) < 200; omega⟩
 exact this
theorem d3Z {rate : Nat} {e np i : Int} {parts : List (List Int)} {l : List Int} {s : List Int × Nat} {j : Nat} (hs : d5f rate s) (hr : 8 ≤ rate ∧ rate ≤ 200) (hl : ∀ z ∈ l, 0 ≤ z ∧ z ≤ 255) (hm : l.length ≤ maxLen) (hj : j < l.length)
  {β : Type} (N : Nat) (kn : _ → Option β) (k : _ → Option β) :
  j7 N β (e, parts, np, i, l, (l.length : Int), (j : Int), (b0Y rate s (l.take j)).1, (rate : Int), ((b0Y rate s (l.take j)).2 : Int), ()) kn k
  = kn (e, parts, np, i, l, (l.length : Int), ((j + 1 : Nat) : Int), (b0Y rate s (l.take (j + 1))).1, (rate : Int), ((b0Y rate s (l.take (j + 1))).2 : Int), ()) := by
 have hm' : maxLen ≤ 9223372036854775807 := by decide
 have hS := c1q (l.take j) hs
 have e1 : b0Y rate s (l.take (j + 1)) = c7C rate (b0Y rate s (l.take j)) (l.getD j 0) := by
  rw [List.take_succ_eq_append_getElem hj, c1p, d4U, List.getD_eq_getElem?_getD, List.getElem?_eq_getElem hj]; rfl
 have hz := hl _ (a3m hj)
 generalize b0Y rate s (l.take j) = S at *
 have h2 := hS.2
 unfold j7
 dsimp only
 rw [if_pos (by omega), if_pos (by omega), if_pos (by omega), Int.toNat_natCast, d15 hS.1 ⟨by omega, by omega⟩ (by omega) hz, Option.bind_some]
 dsimp only
 rw [e1, c7 (x := (S.2 : Int) + 1) (by omega) (by omega), c7 (by omega) (by omega)]
 unfold c7C
 by_cases h : S.2 + 1 = rate
 ·rw [if_pos (by omega), c7V (b9e hS.1 _ _), Option.bind_some, if_pos h]
  rfl
 ·rw [if_neg (by omega), if_neg h]
  rfl
theorem d30 {rate : Nat} {e np i : Int} {parts : List (List Int)} {l : List Int} {s : List Int × Nat} (hs : d5f rate s) (hr : 8 ≤ rate ∧ rate ≤ 200) (hl : ∀ z ∈ l, 0 ≤ z ∧ z ≤ 255) (hm : l.length ≤ maxLen)
  {β : Type} {N : Nat} (hN : l.length < N) {k : _ → Option β} :
  m9 (j7 N) N (e, parts, np, i, l, (l.length : Int), (0 : Int), s.1, (rate : Int), (s.2 : Int), ()) k = k (e, parts, np, i, (b0Y rate s l).1, (rate : Int), ((b0Y rate s l).2 : Int), ()) := by
 refine i9 (F := j7 N) (s := fun j => (e, parts, np, i, l, (l.length : Int), (j : Int), (b0Y rate s (l.take j)).1, (rate : Int), ((b0Y rate s (l.take j)).2 : Int), ()))
  (y := (e, parts, np, i, (b0Y rate s l).1, (rate : Int), ((b0Y rate s l).2 : Int), ())) l.length ?_ ?_ ?_ N hN
 ·rfl
 ·exact fun j hj kn => d3Z hs hr hl hm hj N kn k
 ·intro kn
  unfold j7
  dsimp only
  rw [if_neg (by omega), List.take_length]
def a1a (l : List (List Int)) : Prop := l.length ≤ maxLen ∧ ∀ zs ∈ l, zs.length ≤ maxLen ∧ ∀ z ∈ zs, 0 ≤ z ∧ z ≤ 255
theorem a2v {l : List (List Int)} : Kd.wf (.sls (.int .u8)) l ↔ a1a l := by simp [Kd.wf, a1a, a0n]
theorem d3a {zs : List Int} : ∀ {l : List (List Int)}, zs ∈ l → zs.length ≤ l.flatten.length
 | x :: l, h => by
  rcases List.mem_cons.1 h with rfl | h
  ·simp
  ·have := d3a h; simp only [List.flatten_cons, List.length_append]; omega
theorem d1i {rate : Nat} {e : Int} {parts : List (List Int)} {s : List Int × Nat} {i : Nat} (hs : d5f rate s) (hr : 8 ≤ rate ∧ rate ≤ 200) (hp : a1a parts) (hi : i < parts.length)
  {β : Type} {N : Nat} (hN : parts.flatten.length < N) (kn : _ → Option β) (k : _ → Option β) :
  n9 N β (e, parts, (parts.length : Int), (i : Int), (b0Y rate s (parts.take i).flatten).1, (rate : Int), ((b0Y rate s (parts.take i).flatten).2 : Int), ()) kn k
  = kn (e, parts, (parts.length : Int), ((i + 1 : Nat) : Int), (b0Y rate s (parts.take (i + 1)).flatten).1, (rate : Int), ((b0Y rate s (parts.take (i + 1)).flatten).2 : Int), ()) := by
 have hm' : maxLen ≤ 9223372036854775807 := by decide
 have hl := hp.1
 have hS := c1q (parts.take i).flatten hs
 have hmem : parts.getD i [] ∈ parts := by
  rw [List.getD_eq_getElem?_getD, List.getElem?_eq_getElem hi]; simp
 have e1 : b0Y rate s (parts.take (i + 1)).flatten = b0Y rate (b0Y rate s (parts.take i).flatten) (parts.getD i []) := by
  rw [List.take_succ_eq_append_getElem hi, List.flatten_append, c1p, List.getD_eq_getElem?_getD, List.getElem?_eq_getElem hi]
  simp
 have hlen := d3a hmem
 obtain ⟨q1, q2⟩ := hp.2 _ hmem
 rw [e1]
 generalize b0Y rate s (parts.take i).flatten = S at *
 unfold n9
 dsimp only
 rw [if_pos (by omega), if_pos (by omega), if_pos (by omega), Int.toNat_natCast]
 rw [d30 hS hr q2 q1 (by omega)]
 dsimp only
 rw [c7 (by omega) (by omega)]
 rfl
theorem b2G : ∀ x r, O4 x = some r → ∃ N, P9 N x = some r := by
 refine i0 (ks := z8) (rs := z9) fun x hw hq => ?_
 obtain ⟨⟨(a : List Int), (r : Int), (p : Int), u⟩, (e : Int), (parts : List (List Int)), v⟩ := x
 obtain ⟨ha, _, _⟩ := d39.1 hw.1
 have he : 0 ≤ e ∧ e ≤ 255 := a0n.1 hw.2.1
 have hp : a1a parts := a2v.1 hw.2.2.1
 obtain ⟨hr, hp0, hp1⟩ : (8 ≤ r ∧ r ≤ 200) ∧ 0 ≤ p ∧ p < r := hq
 obtain ⟨rate, rfl⟩ : ∃ m : Nat, r = m := ⟨r.toNat, by omega⟩
 obtain ⟨q, rfl⟩ : ∃ m : Nat, p = m := ⟨p.toNat, by omega⟩
 have hs : d5f rate (a, q) := ⟨ha, by show q < rate; omega⟩
 have hr' : 8 ≤ rate ∧ rate ≤ 200 := by omega
 refine ⟨parts.length + parts.flatten.length + 1, ?_⟩
 unfold P9
 dsimp only
 refine (i9 (F := n9 (parts.length + parts.flatten.length + 1)) (s := fun i => (e, parts, (parts.length : Int), (i : Int), (b0Y rate (a, q) (parts.take i).flatten).1, (rate : Int), ((b0Y rate (a, q) (parts.take i).flatten).2 : Int), ()))
  (y := (e, (b0Y rate (a, q) parts.flatten).1, (rate : Int), ((b0Y rate (a, q) parts.flatten).2 : Int), ())) parts.length ?_ ?_ ?_ _ (by omega)).trans ?_
 ·rfl
 ·exact fun i hi kn => d1i hs hr' hp hi (by omega) kn _
 ·intro kn
  unfold n9
  dsimp only
  rw [if_neg (by omega), List.take_length]
 ·have hS := c1q parts.flatten hs
  dsimp only
  rw [Int.toNat_natCast, Int.toNat_natCast]
  unfold R0
  generalize b0Y rate (a, q) parts.flatten = S at *
  have h2 := hS.2
  rw [d15 hS.1 ⟨by omega, by omega⟩ (by omega) he, Option.bind_some]
  dsimp only
  rw [c7 (by omega) (by omega), show (rate : Int) - 1 = ((rate - 1 : Nat) : Int) by omega, d15 (b9e hS.1 _ _) ⟨by omega, by omega⟩ (by omega) (by omega), Option.bind_some]
  dsimp only
  rw [c7V (b9e (b9e hS.1 _ _) _ _), Option.bind_some]
theorem d9K : u64s 25 z25 := rows.zero (by omega) 25
theorem d4o {rate : Nat} {s : List Int × Nat} (hs : d5f rate s) (e : Int) (l : List Int) : u64s 25 (R0 rate e s l) := c8D (b9e (b9e (c1q l hs).1 _ _) _ _)
theorem d4z {a : List Int} {rate p : Nat} {e : Int} {parts : List (List Int)} (ha : u64s 25 a) (hr : 8 ≤ rate ∧ rate ≤ 200) (hp : p < rate) (he : 0 ≤ e ∧ e ≤ 255) (hl : a1a parts) :
  O4 ((a, (rate : Int), (p : Int), ()), e, parts, ()) = some (R0 rate e (a, p) parts.flatten, (rate : Int), 0, ()) := by
 have := d9 (ks := z8) (rs := z9) (x := ((a, (rate : Int), (p : Int), ()), e, parts, ())) (Q := fun x => b56 x.1.2.1 ∧ 0 ≤ x.1.2.2.1 ∧ x.1.2.2.1 < x.1.2.1) (f := fun x => (R0 x.1.2.1.toNat x.2.1 (x.1.1, x.1.2.2.1.toNat) x.2.2.1.flatten, x.1.2.1, 0, ()))
  ⟨d39.2 ⟨ha, by omega, by omega⟩, a0n.2 he, a2v.2 hl, trivial⟩ ⟨⟨by show (8 : Int) ≤ rate; omega, by show (rate : Int) ≤ 200; omega⟩, by show (0 : Int) ≤ p; omega, by show (p : Int) < rate; omega⟩
 exact this
theorem c0m : ∀ x r, Y1 x = some r → ∃ N, a2t N x = some r := by
 refine i0 (ks := M6) (rs := M7) fun x hw hq => ⟨0, ?_⟩
 obtain ⟨(r : Int), (parts : List (List Int)), u⟩ := x
 have hp : a1a parts := a2v.1 hw.2.1
 have hr : 8 ≤ r ∧ r ≤ 200 := hq
 obtain ⟨rate, rfl⟩ : ∃ m : Nat, r = m := ⟨r.toNat, by omega⟩
 have e := d4z (e := 31) (p := 0) d9K (by omega) (show 0 < rate by omega) (by omega) hp
 unfold a2t
 refine (congrArg (fun o => Option.bind o _) e).trans ?_
 rw [Option.bind_some]
 rfl
theorem c3H {rate : Nat} {parts : List (List Int)} (hr : 8 ≤ rate ∧ rate ≤ 200) (hl : a1a parts) : Y1 ((rate : Int), parts, ()) = some (true, R0 rate 31 (z25, 0) parts.flatten, (rate : Int), 0, 0, ()) := by
 have := d9 (ks := M6) (rs := M7) (x := ((rate : Int), parts, ())) (Q := fun x => b56 x.1) (f := fun x => (true, R0 x.1.toNat 31 (z25, 0) x.2.1.flatten, x.1, 0, 0, ()))
  ⟨u4.2 (by omega), a2v.2 hl, trivial⟩ ⟨by show (8 : Int) ≤ rate; omega, by show (rate : Int) ≤ 200; omega⟩
 exact this
theorem b8L : ∀ x r, D6 x = some r → ∃ N, a1r N x = some r := by
 refine i0 (ks := I2) (rs := I3) fun x hw hq => ⟨0, ?_⟩
 obtain ⟨(parts : List (List Int)), u⟩ := x
 have hp : a1a parts := a2v.1 hw.1
 unfold a1r
 refine (congrArg (fun o => Option.bind o _) (c3H (rate := 168) (by omega) hp)).trans ?_
 rw [Option.bind_some]
 rfl
theorem c0Q {parts : List (List Int)} (hl : a1a parts) : D6 (parts, ()) = some (true, R0 168 31 (z25, 0) parts.flatten, 168, 0, 0, ()) :=
 d9 (ks := I2) (rs := I3) (x := (parts, ())) ⟨a2v.2 hl, trivial⟩ trivial
theorem d9J {b : Bool} {a : List Int} {r p c : Int} : c5G [.bool, .xs (.int .u64) 25, .int .i64, .int .i64, .int .i64] (b, a, r, p, c, ()) ↔ u64s 25 a ∧ (-9223372036854775808 ≤ r ∧ r ≤ 9223372036854775807) ∧ (-9223372036854775808 ≤ p ∧ p ≤ 9223372036854775807) ∧ (-9223372036854775808 ≤ c ∧ c ≤ 9223372036854775807) := by
 have h1 : FK.wf (.xs (.int .u64) 25) a ↔ u64s 25 a := by simp [FK.wf, u64s, rows, b55]
 have h2 : FK.wf (.int .i64) r ↔ _ := u4
 have h3 : FK.wf (.int .i64) p ↔ _ := u4
 have h4 : FK.wf (.int .i64) c ↔ _ := u4
 have h5 : FK.wf .bool b ↔ True := by simp [FK.wf]
 simp only [c5G, h1, h2, h3, h4, h5, and_true, true_and]
theorem d4v {a out : List Int} {rate p : Nat} (ha : u64s 25 a) (hr : 8 ≤ rate ∧ rate ≤ 200) (hp : p ≤ rate) (ho : out.length ≤ maxLen ∧ ∀ z ∈ out, 0 ≤ z ∧ z ≤ 255) :
  O3 ((a, (rate : Int), (p : Int), ()), out, ()) = some (((X1 rate a (p + out.length)).1, (rate : Int), ((X1 rate a (p + out.length)).2 : Int), ()), (List.range out.length).map fun k => b29 rate a (p + k)) := by
 have := d9 (ks := z6) (rs := z7) (x := ((a, (rate : Int), (p : Int), ()), out, ())) (Q := fun x => b56 x.1.2.1 ∧ 0 ≤ x.1.2.2.1 ∧ x.1.2.2.1 ≤ x.1.2.1)
  (f := fun x => (((X1 x.1.2.1.toNat x.1.1 (x.1.2.2.1.toNat + x.2.1.length)).1, x.1.2.1, ((X1 x.1.2.1.toNat x.1.1 (x.1.2.2.1.toNat + x.2.1.length)).2 : Int), ()), (List.range x.2.1.length).map fun k => b29 x.1.2.1.toNat x.1.1 (x.1.2.2.1.toNat + k)))
  ⟨d39.2 ⟨ha, by omega, by omega⟩, ⟨ho.1, fun z hz => a0n.2 (ho.2 z hz)⟩, trivial⟩ ⟨⟨by show (8 : Int) ≤ rate; omega, by show (rate : Int) ≤ 200; omega⟩, by show (0 : Int) ≤ p; omega, by show (p : Int) ≤ rate; omega⟩
 exact this
theorem d6K {a : List Int} {r p c : Int} (h : c5G [.bool, .xs (.int .u64) 25, .int .i64, .int .i64, .int .i64] (true, a, r, p, c, ())) : a1k ((true, a, r, p, c, ()), ()) = some (false, (true, a, r, p, c, ())) :=
 d9 (ks := I8) (rs := I9) (x := ((true, a, r, p, c, ()), ())) ⟨h, trivial⟩ trivial
theorem d12 {n : Int} (h : 0 ≤ n ∧ n ≤ 1048576) : a2T (n, ()) = some 0 := by
 have := d9 (ks := a6L) (rs := a6M) (Q := fun _ => True) (f := fun x => d8H x.1) (x := (n, ())) ⟨u4.2 (by omega), trivial⟩ trivial
 refine this.trans ?_
 show some (d8H n) = _
 unfold d8H
 rw [if_neg (by omega), if_neg (by omega)]
theorem b8N : ∀ x r, o3 x = some r → ∃ N, a1t N x = some r := by
 refine i0 (ks := I6) (rs := I7) fun x hw hq => ⟨0, ?_⟩
 obtain ⟨⟨(b : Bool), (a : List Int), (r : Int), (p : Int), (c : Int), u⟩, (n : Int), v⟩ := x
 obtain ⟨hb, hn0, hn1, hr, hp0, hp1⟩ : b = true ∧ 0 ≤ n ∧ n ≤ 1048576 ∧ (8 ≤ r ∧ r ≤ 200) ∧ 0 ≤ p ∧ p ≤ r := hq
 subst hb
 have hx := d9J.1 hw.1
 obtain ⟨rate, rfl⟩ : ∃ m : Nat, r = m := ⟨r.toNat, by omega⟩
 obtain ⟨q, rfl⟩ : ∃ m : Nat, p = m := ⟨p.toNat, by omega⟩
 obtain ⟨m, rfl⟩ : ∃ m : Nat, n = m := ⟨n.toNat, by omega⟩
 have hM : 1048576 ≤ maxLen := by decide
 have hg := d4v (a := a) (out := List.replicate m 0) (rate := rate) (p := q) hx.1 (by omega) (by omega) ⟨by simp; omega, fun z hz => by rw [List.eq_of_mem_replicate hz]; omega⟩
 rw [List.length_replicate] at hg
 unfold a1t
 refine (congrArg (fun o => Option.bind o _) (d6K hw.1)).trans ?_
 rw [Option.bind_some, if_neg (by simp)]
 dsimp only
 rw [d12 (by omega), Option.bind_some, if_neg (by omega), if_pos (by omega), if_pos rfl, if_pos (by omega), Int.toNat_natCast, hg, Option.bind_some]
 dsimp only
 rw [if_pos (by simp)]
 simp only [Int.toNat_natCast, decide_true]
theorem c2n (a : List Int) (m : Nat) : ∀ n : Nat, b0o n (b0o m a) = b0o (m + n) a
 | 0 => rfl
 | n + 1 => by rw [b0o, c2n a m n]; rfl
theorem d7D {rate : Nat} (hr : 0 < rate) (a : List Int) (p k : Nat) : b29 rate (X1 rate a p).1 ((X1 rate a p).2 + k) = b29 rate a (p + k) := by
 unfold b29 X1
 dsimp only
 have e := Nat.div_add_mod (p - 1) rate
 generalize (p - 1) / rate = q at *
 have h : p + k = (p - q * rate + k) + rate * q := by
  rw [Nat.mul_comm] at e
  have : q * rate ≤ p := by omega
  rw [Nat.mul_comm rate q]; omega
 rw [h, Nat.add_mul_div_left _ _ hr, Nat.add_mul_mod_self_left, c2n, Nat.add_comm q]
theorem d7W {rate : Nat} (hr : 0 < rate) (a : List Int) (p k : Nat) (hk : 0 < k) : X1 rate (X1 rate a p).1 ((X1 rate a p).2 + k) = X1 rate a (p + k) := by
 unfold X1
 dsimp only
 have e := Nat.div_add_mod (p - 1) rate
 generalize (p - 1) / rate = q at *
 have h0 : q * rate ≤ p := by rw [Nat.mul_comm] at e; omega
 have h : p + k - 1 = (p - q * rate + k - 1) + rate * q := by
  rw [Nat.mul_comm rate q]; omega
 rw [h, Nat.add_mul_div_left _ _ hr, c2n, Nat.add_comm q, Nat.add_mul]
 congr 1
 omega
abbrev z256 : List Int := List.replicate 256 0
theorem d3q (rate : Nat) (a : List Int) (p : Nat) : 0 ≤ b29 rate a p ∧ b29 rate a p ≤ 255 := by
 unfold b29 c9z
 simp [IntKind.wrap, IntKind.signed, IntKind.bits]; omega
theorem d7V {rate : Nat} (hr : 0 < rate) {a : List Int} (ha : u64s 25 a) (p : Nat) : u64s 25 (X1 rate a p).1 ∧ (X1 rate a p).2 ≤ rate := by
 refine ⟨c8E ha _, ?_⟩
 unfold X1
 have e := Nat.div_add_mod (p - 1) rate
 have e1 := Nat.mod_lt (p - 1) hr
 rw [Nat.mul_comm] at e
 show p - (p - 1) / rate * rate ≤ rate
 omega
theorem c5s (rate : Nat) (e : Int) (l : List Int) (n : Nat) : (a0l rate e l n).length = n := by simp [a0l]
theorem d1A (l : List Int) (p : Nat) : 0 ≤ shk l p ∧ shk l p ≤ 255 := d3q 168 _ p
theorem d1z (l : List Int) (p : Nat) : 0 ≤ shb l p ∧ shb l p ≤ 255 := d3q 136 _ p
theorem d9x (rate : Nat) (e : Int) (l : List Int) (n : Nat) : ∀ z ∈ a0l rate e l n, 0 ≤ z ∧ z ≤ 255 := by
 intro z hz
 obtain ⟨p, _, rfl⟩ := List.mem_map.1 hz
 exact d3q rate _ p
theorem d1X {rate : Nat} (hr : 8 ≤ rate ∧ rate ≤ 200) {A : List Int} {P n : Nat} (hA : u64s 25 A) (hn : n ≤ 1048576) {c : Int} (hc : 0 ≤ c ∧ c ≤ 1000000) : o3 ((true, (X1 rate A P).1, (rate : Int), ((X1 rate A P).2 : Int), c, ()), (n : Int), ())
  = some ((List.range n).map (fun k => b29 rate A (P + k)), 0, (true, (X1 rate A (P + n)).1, (rate : Int), ((X1 rate A (P + n)).2 : Int), c + n, ())) := by
 obtain ⟨h1, h2⟩ := d7V (rate := rate) (by omega) hA P
 have := d9 (ks := I6) (rs := I7) (x := ((true, (X1 rate A P).1, (rate : Int), ((X1 rate A P).2 : Int), c, ()), (n : Int), ()))
  (Q := fun x => x.1.1 = true ∧ 0 ≤ x.2.1 ∧ x.2.1 ≤ 1048576 ∧ b56 x.1.2.2.1 ∧ 0 ≤ x.1.2.2.2.1 ∧ x.1.2.2.2.1 ≤ x.1.2.2.1)
  (f := fun x => ((List.range x.2.1.toNat).map (fun k => b29 x.1.2.2.1.toNat x.1.2.1 (x.1.2.2.2.1.toNat + k)), 0,
  (true, (X1 x.1.2.2.1.toNat x.1.2.1 (x.1.2.2.2.1.toNat + x.2.1.toNat)).1, x.1.2.2.1, ((X1 x.1.2.2.1.toNat x.1.2.1 (x.1.2.2.2.1.toNat + x.2.1.toNat)).2 : Int), IntKind.i64.wrap (x.1.2.2.2.2.1 + x.2.1), ())))
  ⟨d9J.2 ⟨h1, by omega, by omega, by omega⟩, (u4 (n := (n : Int))).2 (by omega), trivial⟩ ⟨rfl, by show (0 : Int) ≤ n; omega, by show (n : Int) ≤ 1048576; omega, ⟨by show (8 : Int) ≤ rate; omega, by show (rate : Int) ≤ 200; omega⟩, by show (0 : Int) ≤ ((X1 rate A P).2 : Int); omega, by show ((X1 rate A P).2 : Int) ≤ rate; omega⟩
 refine Eq.trans this ?_
 have e : ∀ k, b29 rate (X1 rate A P).1 ((X1 rate A P).2 + k) = b29 rate A (P + k) := d7D (by omega) A P
 show some ((List.range (n : Int).toNat).map (fun k => b29 (rate : Int).toNat (X1 rate A P).1 (((X1 rate A P).2 : Int).toNat + k)), (0 : Int), (true, (X1 (rate : Int).toNat (X1 rate A P).1 (((X1 rate A P).2 : Int).toNat + (n : Int).toNat)).1, (rate : Int), ((X1 (rate : Int).toNat (X1 rate A P).1 (((X1 rate A P).2 : Int).toNat + (n : Int).toNat)).2 : Int), IntKind.i64.wrap (c + n), ())) = _
 simp only [Int.toNat_natCast, e]
 rw [c7 (by omega) (by omega)]
 by_cases hn0 : n = 0
 ·subst hn0
  simp only [Nat.add_zero]
  have : X1 rate (X1 rate A P).1 (X1 rate A P).2 = X1 rate A P := by
   have h := Nat.div_eq_of_lt (show (X1 rate A P).2 - 1 < rate by omega)
   show (b0o (((X1 rate A P).2 - 1) / rate) (X1 rate A P).1, (X1 rate A P).2 - ((X1 rate A P).2 - 1) / rate * rate) = _
   rw [h]
   simp [b0o]
  rw [this]
 ·rw [d7W (rate := rate) (by omega) A P n (by omega)]
theorem b8M : ∀ x r, S1 x = some r → ∃ N, a1s N x = some r := by
 refine i0 (ks := I4) (rs := I5) fun x hw hq => ⟨0, ?_⟩
 obtain ⟨(parts : List (List Int)), u⟩ := x
 have hp : a1a parts := a2v.1 hw.1
 unfold a1s
 refine (congrArg (fun o => Option.bind o _) (c3H (rate := 136) (by omega) hp)).trans ?_
 rw [Option.bind_some]
 rfl
theorem c7T {parts : List (List Int)} (hl : a1a parts) : S1 (parts, ()) = some (true, R0 136 31 (z25, 0) parts.flatten, 136, 0, 0, ()) :=
 d9 (ks := I4) (rs := I5) (x := (parts, ())) ⟨a2v.2 hl, trivial⟩ trivial
theorem c5P (rate : Nat) (hr : 0 < rate) (e : Int) (l : List Int) : u64s 25 (R0 rate e (z25, 0) l) := d4o ⟨d9K, by show 0 < rate; omega⟩ _ _
theorem c9q {rate : Nat} (hr : 8 ≤ rate ∧ rate ≤ 200) {l : List Int} {n : Nat} (hn : n ≤ 1048576) : ∃ y, o3 ((true, R0 rate 31 (z25, 0) l, (rate : Int), 0, 0, ()), (n : Int), ()) = some (a0l rate 31 l n, 0, y) := by
 have h := d1X hr (P := 0) (n := n) (c5P rate (by omega) 31 l) hn (c := 0) (by omega)
 have hst : X1 rate (R0 rate 31 (z25, 0) l) 0 = (R0 rate 31 (z25, 0) l, 0) := b8W _ (by omega) (by omega)
 rw [hst] at h
 refine ⟨(true, (X1 rate (R0 rate 31 (z25, 0) l) (0 + n)).1, (rate : Int), ((X1 rate (R0 rate 31 (z25, 0) l) (0 + n)).2 : Int), 0 + (n : Int), ()), h.trans ?_⟩
 simp only [Nat.zero_add]
 rfl
theorem c3w : ∀ x r, v5 x = some r → ∃ N, a4M N x = some r := by
 refine i0 (ks := T1) (rs := T2) fun x hw hq => ⟨0, ?_⟩
 obtain ⟨(b : Int), (n : Int), (parts : List (List Int)), u⟩ := x
 have hp : a1a parts := a2v.1 hw.2.2.1
 obtain ⟨hb, hn0, hn1⟩ : (b = 128 ∨ b = 256) ∧ 0 ≤ n ∧ n ≤ 1048576 := hq
 obtain ⟨m, rfl⟩ : ∃ m : Nat, n = m := ⟨n.toNat, by omega⟩
 unfold a4M
 dsimp only
 rcases hb with rfl | rfl
 ·obtain ⟨y, e⟩ := c9q (rate := 168) (by omega) (l := parts.flatten) (n := m) (by omega)
  rw [if_neg (by simp), d12 (by omega), Option.bind_some, if_neg (by simp), if_pos rfl, c0Q hp, Option.bind_some]
  refine (congrArg (fun o => Option.bind o _) e).trans ?_
  rfl
 ·obtain ⟨y, e⟩ := c9q (rate := 136) (by omega) (l := parts.flatten) (n := m) (by omega)
  rw [if_pos (by omega), if_neg (by simp), d12 (by omega), Option.bind_some, if_neg (by simp), if_neg (by omega), c7T hp, Option.bind_some]
  refine (congrArg (fun o => Option.bind o _) e).trans ?_
  rfl
theorem c9r {b : Int} (hb : b = 128 ∨ b = 256) {n : Nat} (hn : n ≤ 1048576) {parts : List (List Int)} (hl : a1a parts) : v5 (b, (n : Int), parts, ()) = some (a0l (if b = 128 then 168 else 136) 31 parts.flatten n, 0) := by
 have := d9 (ks := T1) (rs := T2) (x := (b, (n : Int), parts, ())) (Q := fun x => (x.1 = 128 ∨ x.1 = 256) ∧ 0 ≤ x.2.1 ∧ x.2.1 ≤ 1048576) (f := fun x => (a0l (if x.1 = 128 then 168 else 136) 31 x.2.2.1.flatten x.2.1.toNat, 0))
  ⟨u4.2 (by show _ ≤ b ∧ b ≤ _; omega), (u4 (n := (n : Int))).2 (by omega), a2v.2 hl, trivial⟩ ⟨hb, by show (0 : Int) ≤ n; omega, by show (n : Int) ≤ 1048576; omega⟩
 exact this
theorem d0c {l : List Int} (hl : l.length ≤ 4294967000 ∧ ∀ z ∈ l, 0 ≤ z ∧ z ≤ 255) : a1a [l] := by
 have hM : 4294967296 ≤ maxLen := by decide
 exact ⟨by simp only [List.length_cons, List.length_nil]; omega, fun zs hz => by rw [List.mem_singleton.1 hz]; exact ⟨by omega, hl.2⟩⟩
theorem d8L (l : List Int) : [l].flatten = l := by simp
end Go.Ax.TryP
