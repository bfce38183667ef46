/- A part of the proof: DsT, DsI, DkS1, DkP1, DkQ1, DkS2, DkP2, DkQ2. -/
import Derived.Test.YtlgnkjimalifhaaAxD
import Derived.Test.YtlgnkjimalifhaaProg
set_option linter.unusedVariables false
namespace Go.Ax.TryP
open Go.Proofs
abbrev U : TV := .one .any
abbrev V : HV := .any
abbrev b8 : CK := .int .u8
abbrev b16 : CK := .int .u16
abbrev b32 : CK := .int .i32
abbrev b64 : CK := .int .i64
theorem mix : Try.prog.follows .mixedOrders = true := by kernel_rfl
noncomputable def ty2 : TyI where
 td := .int .i64
 size := 1
 bytes := 8
 zero := [.xs b64 1 [0]]
theorem b0I : TyOk Try.prog 2 ty2 :=
 TyOk.of (f := Try.t2) (z := (Try.t2.zero).getD .nilIface) (cs := (X7 ty2.zero).getD []) Try.underlying2 (by kernel_rfl) (by kernel_rfl) ⟨by kernel_rfl, by kernel_rfl⟩ (by kernel_rfl) (by kernel_rfl) (by kernel_rfl) (by kernel_rfl) (by kernel_rfl)
noncomputable def ty3 : TyI where
 td := .int .i64
 size := 1
 bytes := 8
 zero := [.xs b64 1 [0]]
theorem a2O : TyOk Try.prog 3 ty3 :=
 TyOk.of (f := Try.t3) (z := (Try.t3.zero).getD .nilIface) (cs := (X7 ty3.zero).getD []) Try.underlying3 (by kernel_rfl) (by kernel_rfl) ⟨by kernel_rfl, by kernel_rfl⟩ (by kernel_rfl) (by kernel_rfl) (by kernel_rfl) (by kernel_rfl) (by kernel_rfl)
noncomputable def ty4 : TyI where
 td := .bool
 size := 1
 bytes := 1
 zero := [.xs .bool 1 [0]]
theorem c0E : TyOk Try.prog 4 ty4 :=
 TyOk.of (f := Try.t4) (z := (Try.t4.zero).getD .nilIface) (cs := (X7 ty4.zero).getD []) Try.underlying4 (by kernel_rfl) (by kernel_rfl) ⟨by kernel_rfl, by kernel_rfl⟩ (by kernel_rfl) (by kernel_rfl) (by kernel_rfl) (by kernel_rfl) (by kernel_rfl)
noncomputable def ty5 : TyI where
 td := .int .u8
 size := 1
 bytes := 1
 zero := [.xs b8 1 [0]]
theorem S6 : TyOk Try.prog 5 ty5 :=
 TyOk.of (f := Try.t5) (z := (Try.t5.zero).getD .nilIface) (cs := (X7 ty5.zero).getD []) Try.underlying5 (by kernel_rfl) (by kernel_rfl) ⟨by kernel_rfl, by kernel_rfl⟩ (by kernel_rfl) (by kernel_rfl) (by kernel_rfl) (by kernel_rfl) (by kernel_rfl)
noncomputable def ty9 : TyI where
 td := .str
 size := 1
 bytes := 16
 zero := [.one (.str (⟨#[]⟩ : ByteArray))]
theorem d2V : TyOk Try.prog 9 ty9 :=
 TyOk.of (f := Try.t9) (z := (Try.t9.zero).getD .nilIface) (cs := (X7 ty9.zero).getD []) Try.underlying9 (by kernel_rfl) (by kernel_rfl) ⟨by kernel_rfl, by kernel_rfl⟩ (by kernel_rfl) (by kernel_rfl) (by kernel_rfl) (by kernel_rfl) (by kernel_rfl)
noncomputable def ty21 : TyI where
 td := .int .i32
 size := 1
 bytes := 4
 zero := [.xs b32 1 [0]]
theorem G6 : TyOk Try.prog 21 ty21 :=
 TyOk.of (f := Try.t21) (z := (Try.t21.zero).getD .nilIface) (cs := (X7 ty21.zero).getD []) Try.underlying21 (by kernel_rfl) (by kernel_rfl) ⟨by kernel_rfl, by kernel_rfl⟩ (by kernel_rfl) (by kernel_rfl) (by kernel_rfl) (by kernel_rfl) (by kernel_rfl)
noncomputable def ty22 : TyI where
 td := .int .u32
 size := 1
 bytes := 4
 zero := [.xs (.int .u32) 1 [0]]
theorem c3l : TyOk Try.prog 22 ty22 :=
 TyOk.of (f := Try.t22) (z := (Try.t22.zero).getD .nilIface) (cs := (X7 ty22.zero).getD []) Try.underlying22 (by kernel_rfl) (by kernel_rfl) ⟨by kernel_rfl, by kernel_rfl⟩ (by kernel_rfl) (by kernel_rfl) (by kernel_rfl) (by kernel_rfl) (by kernel_rfl)
noncomputable def ty23 : TyI where
 td := .int .u64
 size := 1
 bytes := 8
 zero := [.xs (.int .u64) 1 [0]]
theorem a1Y : TyOk Try.prog 23 ty23 :=
 TyOk.of (f := Try.t23) (z := (Try.t23.zero).getD .nilIface) (cs := (X7 ty23.zero).getD []) Try.underlying23 (by kernel_rfl) (by kernel_rfl) ⟨by kernel_rfl, by kernel_rfl⟩ (by kernel_rfl) (by kernel_rfl) (by kernel_rfl) (by kernel_rfl) (by kernel_rfl)
noncomputable def ty25 : TyI where
 td := .st [(0, 23), (1, 23)]
 size := 2
 bytes := 16
 zero := [.xs (.int .u64) 2 (List.replicate 2 0)]
theorem b63 : TyOk Try.prog 25 ty25 :=
 TyOk.of (f := Try.t25) (z := (Try.t25.zero).getD .nilIface) (cs := (X7 ty25.zero).getD []) Try.underlying25 (by kernel_rfl) (by kernel_rfl) ⟨by kernel_rfl, by kernel_rfl⟩ (by kernel_rfl) (by kernel_rfl) (by kernel_rfl) (by kernel_rfl) (by kernel_rfl)
noncomputable def ty26 : TyI where
 td := .sl 5
 size := 1
 bytes := 24
 zero := [.one (.nilsl)]
theorem w7 : TyOk Try.prog 26 ty26 :=
 TyOk.of (f := Try.t26) (z := (Try.t26.zero).getD .nilIface) (cs := (X7 ty26.zero).getD []) Try.underlying26 (by kernel_rfl) (by kernel_rfl) ⟨by kernel_rfl, by kernel_rfl⟩ (by kernel_rfl) (by kernel_rfl) (by kernel_rfl) (by kernel_rfl) (by kernel_rfl)
noncomputable def ty28 : TyI where
 td := .st [(0, 3), (1, 3), (2, 22), (3, 22), (4, 25), (6, 26), (7, 26), (8, 26), (9, 26)]
 size := 10
 bytes := 136
 zero := [.xs b64 1 [0], .xs b64 1 [0], .xs (.int .u32) 1 [0], .xs (.int .u32) 1 [0], .xs (.int .u64) 2 (List.replicate 2 0), .one (.nilsl), .one (.nilsl), .one (.nilsl), .one (.nilsl)]
theorem a3n : TyOk Try.prog 28 ty28 :=
 TyOk.of (f := Try.t28) (z := (Try.t28.zero).getD .nilIface) (cs := (X7 ty28.zero).getD []) Try.underlying28 (by kernel_rfl) (by kernel_rfl) ⟨by kernel_rfl, by kernel_rfl⟩ (by kernel_rfl) (by kernel_rfl) (by kernel_rfl) (by kernel_rfl) (by kernel_rfl)
noncomputable def ty31 : TyI where
 td := .int .i64
 size := 1
 bytes := 8
 zero := [.xs b64 1 [0]]
theorem c6z : TyOk Try.prog 31 ty31 :=
 TyOk.of (f := Try.t31) (z := (Try.t31.zero).getD .nilIface) (cs := (X7 ty31.zero).getD []) Try.underlying31 (by kernel_rfl) (by kernel_rfl) ⟨by kernel_rfl, by kernel_rfl⟩ (by kernel_rfl) (by kernel_rfl) (by kernel_rfl) (by kernel_rfl) (by kernel_rfl)
noncomputable def ty38 : TyI where
 td := .sl 26
 size := 1
 bytes := 24
 zero := [.one (.nilsl)]
theorem a1Z : TyOk Try.prog 38 ty38 :=
 TyOk.of (f := Try.t38) (z := (Try.t38.zero).getD .nilIface) (cs := (X7 ty38.zero).getD []) Try.underlying38 (by kernel_rfl) (by kernel_rfl) ⟨by kernel_rfl, by kernel_rfl⟩ (by kernel_rfl) (by kernel_rfl) (by kernel_rfl) (by kernel_rfl) (by kernel_rfl)
noncomputable def ty52 : TyI where
 td := .arr 256 21
 size := 256
 bytes := 1024
 zero := [.xs b32 256 (List.replicate 256 0)]
theorem c6A : TyOk Try.prog 52 ty52 :=
 TyOk.of (f := Try.t52) (z := (Try.t52.zero).getD .nilIface) (cs := (X7 ty52.zero).getD []) Try.underlying52 (by kernel_rfl) (by kernel_rfl) ⟨by kernel_rfl, by kernel_rfl⟩ (by kernel_rfl) (by kernel_rfl) (by kernel_rfl) (by kernel_rfl) (by kernel_rfl)
noncomputable def ty53 : TyI where
 td := .arr 256 21
 size := 256
 bytes := 1024
 zero := [.xs b32 256 (List.replicate 256 0)]
theorem G7 : TyOk Try.prog 53 ty53 :=
 TyOk.of (f := Try.t53) (z := (Try.t53.zero).getD .nilIface) (cs := (X7 ty53.zero).getD []) Try.underlying53 (by kernel_rfl) (by kernel_rfl) ⟨by kernel_rfl, by kernel_rfl⟩ (by kernel_rfl) (by kernel_rfl) (by kernel_rfl) (by kernel_rfl) (by kernel_rfl)
noncomputable def ty55 : TyI where
 td := .arr 5 53
 size := 1280
 bytes := 5120
 zero := [.xs b32 1280 (List.replicate 1280 0)]
theorem c6B : TyOk Try.prog 55 ty55 :=
 TyOk.of (f := Try.t55) (z := (Try.t55.zero).getD .nilIface) (cs := (X7 ty55.zero).getD []) Try.underlying55 (by kernel_rfl) (by kernel_rfl) ⟨by kernel_rfl, by kernel_rfl⟩ (by kernel_rfl) (by kernel_rfl) (by kernel_rfl) (by kernel_rfl) (by kernel_rfl)
noncomputable def ty60 : TyI where
 td := .sl 74
 size := 1
 bytes := 24
 zero := [.one (.nilsl)]
theorem d0P : TyOk Try.prog 60 ty60 :=
 TyOk.of (f := Try.t60) (z := (Try.t60.zero).getD .nilIface) (cs := (X7 ty60.zero).getD []) Try.underlying60 (by kernel_rfl) (by kernel_rfl) ⟨by kernel_rfl, by kernel_rfl⟩ (by kernel_rfl) (by kernel_rfl) (by kernel_rfl) (by kernel_rfl) (by kernel_rfl)
noncomputable def ty66 : TyI where
 td := .arr 6 53
 size := 1536
 bytes := 6144
 zero := [.xs b32 1536 (List.replicate 1536 0)]
theorem c6C : TyOk Try.prog 66 ty66 :=
 TyOk.of (f := Try.t66) (z := (Try.t66.zero).getD .nilIface) (cs := (X7 ty66.zero).getD []) Try.underlying66 (by kernel_rfl) (by kernel_rfl) ⟨by kernel_rfl, by kernel_rfl⟩ (by kernel_rfl) (by kernel_rfl) (by kernel_rfl) (by kernel_rfl) (by kernel_rfl)
noncomputable def ty70 : TyI where
 td := .int .u64
 size := 1
 bytes := 8
 zero := [.xs (.int .u64) 1 [0]]
theorem d39 : TyOk Try.prog 70 ty70 :=
 TyOk.of (f := Try.t70) (z := (Try.t70.zero).getD .nilIface) (cs := (X7 ty70.zero).getD []) Try.underlying70 (by kernel_rfl) (by kernel_rfl) ⟨by kernel_rfl, by kernel_rfl⟩ (by kernel_rfl) (by kernel_rfl) (by kernel_rfl) (by kernel_rfl) (by kernel_rfl)
noncomputable def ty74 : TyI where
 td := .arr 256 4
 size := 256
 bytes := 256
 zero := [.xs .bool 256 (List.replicate 256 0)]
theorem c6D : TyOk Try.prog 74 ty74 :=
 TyOk.of (f := Try.t74) (z := (Try.t74.zero).getD .nilIface) (cs := (X7 ty74.zero).getD []) Try.underlying74 (by kernel_rfl) (by kernel_rfl) ⟨by kernel_rfl, by kernel_rfl⟩ (by kernel_rfl) (by kernel_rfl) (by kernel_rfl) (by kernel_rfl) (by kernel_rfl)
noncomputable def ty77 : TyI where
 td := .int .u16
 size := 1
 bytes := 2
 zero := [.xs b16 1 [0]]
theorem c6E : TyOk Try.prog 77 ty77 :=
 TyOk.of (f := Try.t77) (z := (Try.t77.zero).getD .nilIface) (cs := (X7 ty77.zero).getD []) Try.underlying77 (by kernel_rfl) (by kernel_rfl) ⟨by kernel_rfl, by kernel_rfl⟩ (by kernel_rfl) (by kernel_rfl) (by kernel_rfl) (by kernel_rfl) (by kernel_rfl)
noncomputable def ty80 : TyI where
 td := .st [(0, 26), (1, 4)]
 size := 2
 bytes := 32
 zero := [.one (.nilsl), .xs .bool 1 [0]]
theorem d0Q : TyOk Try.prog 80 ty80 :=
 TyOk.of (f := Try.t80) (z := (Try.t80.zero).getD .nilIface) (cs := (X7 ty80.zero).getD []) Try.underlying80 (by kernel_rfl) (by kernel_rfl) ⟨by kernel_rfl, by kernel_rfl⟩ (by kernel_rfl) (by kernel_rfl) (by kernel_rfl) (by kernel_rfl) (by kernel_rfl)
noncomputable def ty97 : TyI where
 td := .arr 6 55
 size := 7680
 bytes := 30720
 zero := [.xs b32 7680 (List.replicate 7680 0)]
theorem d0R : TyOk Try.prog 97 ty97 :=
 TyOk.of (f := Try.t97) (z := (Try.t97.zero).getD .nilIface) (cs := (X7 ty97.zero).getD []) Try.underlying97 (by kernel_rfl) (by kernel_rfl) ⟨by kernel_rfl, by kernel_rfl⟩ (by kernel_rfl) (by kernel_rfl) (by kernel_rfl) (by kernel_rfl) (by kernel_rfl)
noncomputable def ty104 : TyI where
 td := .sl 25
 size := 1
 bytes := 24
 zero := [.one (.nilsl)]
theorem c7G : TyOk Try.prog 104 ty104 :=
 TyOk.of (f := Try.t104) (z := (Try.t104.zero).getD .nilIface) (cs := (X7 ty104.zero).getD []) Try.underlying104 (by kernel_rfl) (by kernel_rfl) ⟨by kernel_rfl, by kernel_rfl⟩ (by kernel_rfl) (by kernel_rfl) (by kernel_rfl) (by kernel_rfl) (by kernel_rfl)
noncomputable def ty111 : TyI where
 td := .ptr 125
 size := 1
 bytes := 8
 zero := [.one (.nilp)]
theorem d2h : TyOk Try.prog 111 ty111 :=
 TyOk.of (f := Try.t111) (z := (Try.t111.zero).getD .nilIface) (cs := (X7 ty111.zero).getD []) Try.underlying111 (by kernel_rfl) (by kernel_rfl) ⟨by kernel_rfl, by kernel_rfl⟩ (by kernel_rfl) (by kernel_rfl) (by kernel_rfl) (by kernel_rfl) (by kernel_rfl)
noncomputable def ty117 : TyI where
 td := .arr 256 2
 size := 256
 bytes := 2048
 zero := [.xs b64 256 (List.replicate 256 0)]
theorem c7H : TyOk Try.prog 117 ty117 :=
 TyOk.of (f := Try.t117) (z := (Try.t117.zero).getD .nilIface) (cs := (X7 ty117.zero).getD []) Try.underlying117 (by kernel_rfl) (by kernel_rfl) ⟨by kernel_rfl, by kernel_rfl⟩ (by kernel_rfl) (by kernel_rfl) (by kernel_rfl) (by kernel_rfl) (by kernel_rfl)
noncomputable def ty121 : TyI where
 td := .arr 25 23
 size := 25
 bytes := 200
 zero := [.xs (.int .u64) 25 (List.replicate 25 0)]
theorem b02 : TyOk Try.prog 121 ty121 :=
 TyOk.of (f := Try.t121) (z := (Try.t121.zero).getD .nilIface) (cs := (X7 ty121.zero).getD []) Try.underlying121 (by kernel_rfl) (by kernel_rfl) ⟨by kernel_rfl, by kernel_rfl⟩ (by kernel_rfl) (by kernel_rfl) (by kernel_rfl) (by kernel_rfl) (by kernel_rfl)
noncomputable def ty123 : TyI where
 td := .st [(0, 121), (25, 3), (26, 3)]
 size := 27
 bytes := 216
 zero := [.xs (.int .u64) 25 (List.replicate 25 0), .xs b64 1 [0], .xs b64 1 [0]]
theorem b5q : TyOk Try.prog 123 ty123 :=
 TyOk.of (f := Try.t123) (z := (Try.t123.zero).getD .nilIface) (cs := (X7 ty123.zero).getD []) Try.underlying123 (by kernel_rfl) (by kernel_rfl) ⟨by kernel_rfl, by kernel_rfl⟩ (by kernel_rfl) (by kernel_rfl) (by kernel_rfl) (by kernel_rfl) (by kernel_rfl)
noncomputable def ty125 : TyI where
 td := .st [(0, 4), (1, 123), (28, 3)]
 size := 29
 bytes := 232
 zero := [.xs .bool 1 [0], .xs (.int .u64) 25 (List.replicate 25 0), .xs b64 1 [0], .xs b64 1 [0], .xs b64 1 [0]]
theorem c3j : TyOk Try.prog 125 ty125 :=
 TyOk.of (f := Try.t125) (z := (Try.t125.zero).getD .nilIface) (cs := (X7 ty125.zero).getD []) Try.underlying125 (by kernel_rfl) (by kernel_rfl) ⟨by kernel_rfl, by kernel_rfl⟩ (by kernel_rfl) (by kernel_rfl) (by kernel_rfl) (by kernel_rfl) (by kernel_rfl)
noncomputable def ty131 : TyI where
 td := .arr 25 3
 size := 25
 bytes := 200
 zero := [.xs b64 25 (List.replicate 25 0)]
theorem c3k : TyOk Try.prog 131 ty131 :=
 TyOk.of (f := Try.t131) (z := (Try.t131.zero).getD .nilIface) (cs := (X7 ty131.zero).getD []) Try.underlying131 (by kernel_rfl) (by kernel_rfl) ⟨by kernel_rfl, by kernel_rfl⟩ (by kernel_rfl) (by kernel_rfl) (by kernel_rfl) (by kernel_rfl) (by kernel_rfl)
noncomputable def ty133 : TyI where
 td := .arr 24 23
 size := 24
 bytes := 192
 zero := [.xs (.int .u64) 24 (List.replicate 24 0)]
theorem c7I : TyOk Try.prog 133 ty133 :=
 TyOk.of (f := Try.t133) (z := (Try.t133.zero).getD .nilIface) (cs := (X7 ty133.zero).getD []) Try.underlying133 (by kernel_rfl) (by kernel_rfl) ⟨by kernel_rfl, by kernel_rfl⟩ (by kernel_rfl) (by kernel_rfl) (by kernel_rfl) (by kernel_rfl) (by kernel_rfl)
noncomputable def ty137 : TyI where
 td := .arr 5 23
 size := 5
 bytes := 40
 zero := [.xs (.int .u64) 5 (List.replicate 5 0)]
theorem d2i : TyOk Try.prog 137 ty137 :=
 TyOk.of (f := Try.t137) (z := (Try.t137.zero).getD .nilIface) (cs := (X7 ty137.zero).getD []) Try.underlying137 (by kernel_rfl) (by kernel_rfl) ⟨by kernel_rfl, by kernel_rfl⟩ (by kernel_rfl) (by kernel_rfl) (by kernel_rfl) (by kernel_rfl) (by kernel_rfl)
theorem b5O : c9 Try.prog 4 := ⟨Try.f4, Try.func4, by kernel_rfl, by kernel_rfl⟩
theorem b7z : c9 Try.prog 5 := ⟨Try.f5, Try.func5, by kernel_rfl, by kernel_rfl⟩
theorem b3L : c9 Try.prog 6 := ⟨Try.f6, Try.func6, by kernel_rfl, by kernel_rfl⟩
theorem a9L : c9 Try.prog 7 := ⟨Try.f7, Try.func7, by kernel_rfl, by kernel_rfl⟩
theorem a7h : c9 Try.prog 8 := ⟨Try.f8, Try.func8, by kernel_rfl, by kernel_rfl⟩
theorem a4j : c9 Try.prog 9 := ⟨Try.f9, Try.func9, by kernel_rfl, by kernel_rfl⟩
theorem a9K : c9 Try.prog 10 := ⟨Try.f10, Try.func10, by kernel_rfl, by kernel_rfl⟩
theorem b2q : c9 Try.prog 11 := ⟨Try.f11, Try.func11, by kernel_rfl, by kernel_rfl⟩
theorem b3P : c9 Try.prog 12 := ⟨Try.f12, Try.func12, by kernel_rfl, by kernel_rfl⟩
theorem a4i : c9 Try.prog 13 := ⟨Try.f13, Try.func13, by kernel_rfl, by kernel_rfl⟩
theorem x8 : c9 Try.prog 14 := ⟨Try.f14, Try.func14, by kernel_rfl, by kernel_rfl⟩
theorem a4k : c9 Try.prog 15 := ⟨Try.f15, Try.func15, by kernel_rfl, by kernel_rfl⟩
theorem b3K : c9 Try.prog 16 := ⟨Try.f16, Try.func16, by kernel_rfl, by kernel_rfl⟩
theorem b5M : c9 Try.prog 17 := ⟨Try.f17, Try.func17, by kernel_rfl, by kernel_rfl⟩
theorem b7y : c9 Try.prog 18 := ⟨Try.f18, Try.func18, by kernel_rfl, by kernel_rfl⟩
theorem a46 : c9 Try.prog 19 := ⟨Try.f19, Try.func19, by kernel_rfl, by kernel_rfl⟩
theorem c0K : c9 Try.prog 20 := ⟨Try.f20, Try.func20, by kernel_rfl, by kernel_rfl⟩
theorem Z9 : c9 Try.prog 21 := ⟨Try.f21, Try.func21, by kernel_rfl, by kernel_rfl⟩
theorem a77 : c9 Try.prog 22 := ⟨Try.f22, Try.func22, by kernel_rfl, by kernel_rfl⟩
theorem b5I : c9 Try.prog 23 := ⟨Try.f23, Try.func23, by kernel_rfl, by kernel_rfl⟩
theorem a7g : c9 Try.prog 24 := ⟨Try.f24, Try.func24, by kernel_rfl, by kernel_rfl⟩
theorem a8W : c9 Try.prog 25 := ⟨Try.f25, Try.func25, by kernel_rfl, by kernel_rfl⟩
theorem b5H : c9 Try.prog 26 := ⟨Try.f26, Try.func26, by kernel_rfl, by kernel_rfl⟩
theorem b5N : c9 Try.prog 27 := ⟨Try.f27, Try.func27, by kernel_rfl, by kernel_rfl⟩
theorem a7i : c9 Try.prog 28 := ⟨Try.f28, Try.func28, by kernel_rfl, by kernel_rfl⟩
theorem a43 : c9 Try.prog 29 := ⟨Try.f29, Try.func29, by kernel_rfl, by kernel_rfl⟩
theorem b7w : c9 Try.prog 30 := ⟨Try.f30, Try.func30, by kernel_rfl, by kernel_rfl⟩
theorem b7x : c9 Try.prog 31 := ⟨Try.f31, Try.func31, by kernel_rfl, by kernel_rfl⟩
theorem a42 : c9 Try.prog 32 := ⟨Try.f32, Try.func32, by kernel_rfl, by kernel_rfl⟩
theorem b08 : c9 Try.prog 33 := ⟨Try.f33, Try.func33, by kernel_rfl, by kernel_rfl⟩
theorem b5P : c9 Try.prog 34 := ⟨Try.f34, Try.func34, by kernel_rfl, by kernel_rfl⟩
theorem b1a : c9 Try.prog 35 := ⟨Try.f35, Try.func35, by kernel_rfl, by kernel_rfl⟩
theorem a3H : c9 Try.prog 36 := ⟨Try.f36, Try.func36, by kernel_rfl, by kernel_rfl⟩
theorem a3G : c9 Try.prog 37 := ⟨Try.f37, Try.func37, by kernel_rfl, by kernel_rfl⟩
theorem a41 : c9 Try.prog 38 := ⟨Try.f38, Try.func38, by kernel_rfl, by kernel_rfl⟩
theorem a8X : c9 Try.prog 39 := ⟨Try.f39, Try.func39, by kernel_rfl, by kernel_rfl⟩
theorem Y4 : c9 Try.prog 40 := ⟨Try.f40, Try.func40, by kernel_rfl, by kernel_rfl⟩
theorem a5K : c9 Try.prog 41 := ⟨Try.f41, Try.func41, by kernel_rfl, by kernel_rfl⟩
theorem K7 : c9 Try.prog 42 := ⟨Try.f42, Try.func42, by kernel_rfl, by kernel_rfl⟩
theorem a3o : c9 Try.prog 43 := ⟨Try.f43, Try.func43, by kernel_rfl, by kernel_rfl⟩
theorem a47 : c9 Try.prog 44 := ⟨Try.f44, Try.func44, by kernel_rfl, by kernel_rfl⟩
theorem a45 : c9 Try.prog 45 := ⟨Try.f45, Try.func45, by kernel_rfl, by kernel_rfl⟩
theorem a0C : c9 Try.prog 46 := ⟨Try.f46, Try.func46, by kernel_rfl, by kernel_rfl⟩
theorem a6B : c9 Try.prog 47 := ⟨Try.f47, Try.func47, by kernel_rfl, by kernel_rfl⟩
theorem b2r : c9 Try.prog 48 := ⟨Try.f48, Try.func48, by kernel_rfl, by kernel_rfl⟩
theorem a1M : c9 Try.prog 49 := ⟨Try.f49, Try.func49, by kernel_rfl, by kernel_rfl⟩
theorem a44 : c9 Try.prog 50 := ⟨Try.f50, Try.func50, by kernel_rfl, by kernel_rfl⟩
theorem L6 : c9 Try.prog 51 := ⟨Try.f51, Try.func51, by kernel_rfl, by kernel_rfl⟩
theorem u5 : c9 Try.prog 52 := ⟨Try.f52, Try.func52, by kernel_rfl, by kernel_rfl⟩
theorem b2s : c9 Try.prog 53 := ⟨Try.f53, Try.func53, by kernel_rfl, by kernel_rfl⟩
theorem b7v : c9 Try.prog 54 := ⟨Try.f54, Try.func54, by kernel_rfl, by kernel_rfl⟩
theorem b3M : c9 Try.prog 55 := ⟨Try.f55, Try.func55, by kernel_rfl, by kernel_rfl⟩
theorem a9d : c9 Try.prog 56 := ⟨Try.f56, Try.func56, by kernel_rfl, by kernel_rfl⟩
theorem b5J : c9 Try.prog 57 := ⟨Try.f57, Try.func57, by kernel_rfl, by kernel_rfl⟩
theorem a76 : c9 Try.prog 58 := ⟨Try.f58, Try.func58, by kernel_rfl, by kernel_rfl⟩
theorem b9b : c9 Try.prog 59 := ⟨Try.f59, Try.func59, by kernel_rfl, by kernel_rfl⟩
theorem b7A : c9 Try.prog 60 := ⟨Try.f60, Try.func60, by kernel_rfl, by kernel_rfl⟩
theorem b7B : c9 Try.prog 61 := ⟨Try.f61, Try.func61, by kernel_rfl, by kernel_rfl⟩
theorem a30 : c9 Try.prog 62 := ⟨Try.f62, Try.func62, by kernel_rfl, by kernel_rfl⟩
theorem b3O : c9 Try.prog 63 := ⟨Try.f63, Try.func63, by kernel_rfl, by kernel_rfl⟩
theorem a7j : c9 Try.prog 64 := ⟨Try.f64, Try.func64, by kernel_rfl, by kernel_rfl⟩
theorem a2V : c9 Try.prog 65 := ⟨Try.f65, Try.func65, by kernel_rfl, by kernel_rfl⟩
theorem a2W : c9 Try.prog 66 := ⟨Try.f66, Try.func66, by kernel_rfl, by kernel_rfl⟩
theorem a9e : c9 Try.prog 67 := ⟨Try.f67, Try.func67, by kernel_rfl, by kernel_rfl⟩
theorem b09 : c9 Try.prog 68 := ⟨Try.f68, Try.func68, by kernel_rfl, by kernel_rfl⟩
theorem a9M : c9 Try.prog 69 := ⟨Try.f69, Try.func69, by kernel_rfl, by kernel_rfl⟩
theorem b07 : c9 Try.prog 70 := ⟨Try.f70, Try.func70, by kernel_rfl, by kernel_rfl⟩
theorem b3N : c9 Try.prog 71 := ⟨Try.f71, Try.func71, by kernel_rfl, by kernel_rfl⟩
theorem b5L : c9 Try.prog 72 := ⟨Try.f72, Try.func72, by kernel_rfl, by kernel_rfl⟩
theorem b9c : c9 Try.prog 73 := ⟨Try.f73, Try.func73, by kernel_rfl, by kernel_rfl⟩
theorem a3J : c9 Try.prog 74 := ⟨Try.f74, Try.func74, by kernel_rfl, by kernel_rfl⟩
theorem a9f : c9 Try.prog 75 := ⟨Try.f75, Try.func75, by kernel_rfl, by kernel_rfl⟩
theorem a5L : c9 Try.prog 76 := ⟨Try.f76, Try.func76, by kernel_rfl, by kernel_rfl⟩
theorem b5K : c9 Try.prog 77 := ⟨Try.f77, Try.func77, by kernel_rfl, by kernel_rfl⟩
theorem a5M : c9 Try.prog 78 := ⟨Try.f78, Try.func78, by kernel_rfl, by kernel_rfl⟩
theorem a3I : c9 Try.prog 79 := ⟨Try.f79, Try.func79, by kernel_rfl, by kernel_rfl⟩
theorem a7k : c9 Try.prog 80 := ⟨Try.f80, Try.func80, by kernel_rfl, by kernel_rfl⟩
theorem a9N : c9 Try.prog 81 := ⟨Try.f81, Try.func81, by kernel_rfl, by kernel_rfl⟩
theorem a78 : c9 Try.prog 82 := ⟨Try.f82, Try.func82, by kernel_rfl, by kernel_rfl⟩
theorem b2t : c9 Try.prog 83 := ⟨Try.f83, Try.func83, by kernel_rfl, by kernel_rfl⟩
theorem a7f : c9 Try.prog 84 := ⟨Try.f84, Try.func84, by kernel_rfl, by kernel_rfl⟩
end Go.Ax.TryP
set_option linter.unusedVariables false
namespace Go.Ax.TryP
open Go.Proofs
noncomputable def c5E : AE := AE.ofI [(5, ty5), (26, ty26)] [] [] [] [] [] []
noncomputable def c34 : Inl := c9Y c5E 0 Try.f20
theorem c35 : b7u Try.prog 20 c34 := b8C (AE.ofI_ok (all_cons S6 (all_cons w7 b5)) b5 b5 b5 b5) mix Try.func20 0
noncomputable def c36 : AE := AE.ofI [(31, ty31)] [] [] [] [] [] []
noncomputable def b0R : Inl := c9Y c36 0 Try.f45
theorem a8f : b7u Try.prog 45 b0R := b8C (AE.ofI_ok (all_cons c6z b5) b5 b5 b5 b5) mix Try.func45 0
noncomputable def c37 : AE := AE.ofI [(53, ty53)] [] [] [(45, b0R)] [] [] []
noncomputable def a7n : Inl := c9Y c37 0 Try.f21
theorem a4v : b7u Try.prog 21 a7n := b8C (AE.ofI_ok (all_cons G7 b5) b5 b5 (all_cons ⟨a8f, a45⟩ b5) b5) mix Try.func21 0
noncomputable def c5F : AE := AE.ofI [] [] [] [(45, b0R)] [] [] []
noncomputable def a9R : Inl := c9Y c5F 0 Try.f43
theorem a58 : b7u Try.prog 43 a9R := b8C (AE.ofI_ok b5 b5 b5 (all_cons ⟨a8f, a45⟩ b5) b5) mix Try.func43 0
theorem d1I : d05 Try.prog 20 := ⟨_, Try.underlying20⟩
theorem c5G : d06 Try.prog 31 86 := ⟨_, Try.t31, Try.underlying86, by kernel_rfl, by kernel_rfl⟩
noncomputable def cat_dsa_caught_E : AE := AE.ofA [(31, ty31)] [] [] [] [] [] [] [] [] [20] [(31, 86)] []
noncomputable def b1S : Cat := d4E cat_dsa_caught_E 0 Try.f17
theorem b3C : cat_dsa_caught_E.Ok Try.prog := AE.ofA_ok (all_cons c6z b5) b5 b5 b5 b5 b5 b5 (all_cons d1I b5) (all_cons c5G b5) b5
theorem b5C : c88 Try.prog 17 b1S := d1o b3C mix Try.func17 0
end Go.Ax.TryP
set_option linter.unusedVariables false
namespace Go.Ax.TryP
open Go.Proofs
def rot (a n : Int) : Int := if n = 0 then a else ior .u64 (b1X .u64 a n) (c2w .u64 a (64 - n))
def x64 (a b : Int) : Int := b9m .u64 a b
def offs : List Int := [0, 1, 62, 28, 27, 36, 44, 6, 55, 20, 3, 10, 43, 25, 39, 41, 45, 15, 21, 8, 18, 2, 61, 56, 14]
def cons : List Int := [0x0000000000000001, 0x0000000000008082, 0x800000000000808a, 0x8000000080008000, 0x000000000000808b, 0x0000000080000001, 0x8000000080008081, 0x8000000000008009, 0x000000000000008a, 0x0000000000000088, 0x0000000080008009, 0x000000008000000a, 0x000000008000808b, 0x800000000000008b, 0x8000000000008089, 0x8000000000008003, 0x8000000000008002, 0x8000000000000080, 0x000000000000800a, 0x800000008000000a, 0x8000000080008081, 0x8000000000008080, 0x0000000080000001, 0x8000000080008008]
def at0 (a : List Int) (i : Nat) : Int := a.getD i 0
def cF (a : List Int) (x : Nat) : Int := x64 (x64 (x64 (x64 (at0 a x) (at0 a (x + 5))) (at0 a (x + 10))) (at0 a (x + 15))) (at0 a (x + 20))
def dF (a : List Int) (x : Nat) : Int := x64 (cF a ((x + 4) % 5)) (rot (cF a ((x + 1) % 5)) 1)
def tF (a : List Int) (i : Nat) : Int := rot (x64 (at0 a i) (dF a (i % 5))) (offs.getD i 0)
def d4n (j : Nat) : Nat := 5 * (j % 5) + (3 * (j / 5) + j % 5) % 5
def to5 (i : Nat) : Nat := 5 * ((2 * (i % 5) + 3 * (i / 5)) % 5) + i / 5
def bF (a : List Int) (j : Nat) : Int := tF a (d4n j)
def eF (b : Nat → Int) (i : Nat) : Int := x64 (b i) (b9j .u64 (b9m .u64 18446744073709551615 (b (i / 5 * 5 + (i + 1) % 5))) (b (i / 5 * 5 + (i + 2) % 5)))
def d3K (a : List Int) : List Int := (List.range 25).map (eF (bF a))
def d2O (a : List Int) (c : Int) : List Int := (d3K a).set 0 (x64 (at0 (d3K a) 0) c)
def d1Y : Nat → List Int → List Int
 | 0, a => a
 | n + 1, a => d2O (d1Y n a) (cons.getD n 0)
def c4u (a : List Int) : List Int := d1Y 24 a
noncomputable def x4 : Int × Int × Unit → Option Int := P0 (ks := [.int .u64, .int .i64]) (rs := [.int .u64]) (fun x => 0 ≤ x.2.1 ∧ x.2.1 < 64) fun x => rot x.1 x.2.1
noncomputable def a1w : Unit → Option (List Int) := P0 (ks := []) (rs := [.xs (.int .i64) 25]) (fun _ => True) fun _ => offs
noncomputable def Y5 : Unit → Option (List Int) := P0 (ks := []) (rs := [.xs (.int .u64) 24]) (fun _ => True) fun _ => cons
noncomputable def a3r : List Int × List Int × Unit → Option (List Int) := P0 (ks := [.xs (.int .u64) 25, .rp (.xs (.int .i64) 25)]) (rs := [.xs (.int .u64) 25]) (fun x => x.2.1 = offs) fun x => d3K x.1
noncomputable def G4 : List Int × Unit → Option (List Int) := P0 (ks := [.xs (.int .u64) 25]) (rs := [.xs (.int .u64) 25]) (fun _ => True) fun x => c4u x.1
end Go.Ax.TryP
set_option linter.unusedVariables false
namespace Go.Ax.TryP
open Go.Proofs
noncomputable def p_bits_RotateLeft64_E : AE := AE.of [(3, ty3), (70, ty70)] []
noncomputable def a9Z : Hints := [(3000000, [4])]
noncomputable def a90 : Code := (Try.f84).body.getD .skip
abbrev C7 : List Kd := [.int .u64, .int .i64]
abbrev Y2 : List Kd := [.int .u64]
noncomputable def S8 (N : Nat) (x : Int × Int × Unit) : Option (Int) :=
 if (b9j IntKind.u64 (IntKind.u64.wrap x.2.1) (63:Int)) < 0 then none else (
 if (IntKind.u64.wrap ((64:Int) - (b9j IntKind.u64 (IntKind.u64.wrap x.2.1) (63:Int)))) < 0 then none else (
 some (ior IntKind.u64 (b1X IntKind.u64 x.1 (b9j IntKind.u64 (IntKind.u64.wrap x.2.1) (63:Int))) (c2w IntKind.u64 x.1 (IntKind.u64.wrap ((64:Int) - (b9j IntKind.u64 (IntKind.u64.wrap x.2.1) (63:Int))))))))
theorem a8m : p_bits_RotateLeft64_E.Ok Try.prog := AE.of_ok (all_cons a2O (all_cons d39 b5)) b5
theorem a9g (hE : p_bits_RotateLeft64_E.Ok Try.prog) {g : Ds C7 → Option (Rs [.int .u64])} (hg : ∀ x r, g x = some r → ∃ N, S8 N x = some r) : b6 Try.prog 84 ⟨C7, [.int .u64], g⟩ :=
 d6 (E := p_bits_RotateLeft64_E) (H := a9Z) (L := fun N => LT.nil) (c := a90) (ks := C7) (rs := Y2) (F := S8) hE mix Try.func84 (by kernel_rfl) (fun N => OkAll.nil) (fun _ _ => by kernel_rfl) hg
noncomputable def p_keccak_offsets_E : AE := AE.of [(3, ty3), (131, ty131)] []
noncomputable def b4T : Hints := [(3000000, [0])]
noncomputable def b4U : Code := (Try.f81).body.getD .skip
abbrev a1X : List Kd := []
abbrev J8 : List Kd := [.xs b64 25]
noncomputable def a4d (N : Nat) (x : Unit) : Option (List Int) :=
 some (List.set (List.set (List.set (List.set (List.set (List.set (List.set (List.set (List.set (List.set (List.set (List.set (List.set (List.set (List.set (List.set (List.set (List.set (List.set (List.set (List.set (List.set (List.set (List.set (List.set (List.replicate 25 0) 0 (0:Int)) 1 (1:Int)) 2 (62:Int)) 3 (28:Int)) 4 (27:Int)) 5 (36:Int)) 6 (44:Int)) 7 (6:Int)) 8 (55:Int)) 9 (20:Int)) 10 (3:Int)) 11 (10:Int)) 12 (43:Int)) 13 (25:Int)) 14 (39:Int)) 15 (41:Int)) 16 (45:Int)) 17 (15:Int)) 18 (21:Int)) 19 (8:Int)) 20 (18:Int)) 21 (2:Int)) 22 (61:Int)) 23 (56:Int)) 24 (14:Int))
theorem b1M : p_keccak_offsets_E.Ok Try.prog := AE.of_ok (all_cons a2O (all_cons c3k b5)) b5
theorem b3g (hE : p_keccak_offsets_E.Ok Try.prog) {g : Ds [] → Option (Rs J8)} (hg : ∀ x r, g x = some r → ∃ N, a4d N x = some r) : b6 Try.prog 81 ⟨[], J8, g⟩ :=
 d6 (E := p_keccak_offsets_E) (H := b4T) (L := fun N => LT.nil) (c := b4U) (ks := a1X) (rs := J8) (F := a4d) hE mix Try.func81 (by kernel_rfl) (fun N => OkAll.nil) (fun _ _ => by kernel_rfl) hg
noncomputable def p_keccak_constants_E : AE := AE.of [(23, ty23), (133, ty133)] []
noncomputable def b1E : Hints := [(3000000, [0])]
noncomputable def b1F : Code := (Try.f82).body.getD .skip
abbrev a0u : List Kd := []
abbrev F4 : List Kd := [.xs (.int .u64) 24]
noncomputable def a2G (N : Nat) (x : Unit) : Option (List Int) :=
 some (List.set (List.set (List.set (List.set (List.set (List.set (List.set (List.set (List.set (List.set (List.set (List.set (List.set (List.set (List.set (List.set (List.set (List.set (List.set (List.set (List.set (List.set (List.set (List.set (List.replicate 24 0) 0 (1:Int)) 1 (32898:Int)) 2 (9223372036854808714:Int)) 3 (9223372039002292224:Int)) 4 (32907:Int)) 5 (2147483649:Int)) 6 (9223372039002292353:Int)) 7 (9223372036854808585:Int)) 8 (138:Int)) 9 (136:Int)) 10 (2147516425:Int)) 11 (2147483658:Int)) 12 (2147516555:Int)) 13 (9223372036854775947:Int)) 14 (9223372036854808713:Int)) 15 (9223372036854808579:Int)) 16 (9223372036854808578:Int)) 17 (9223372036854775936:Int)) 18 (32778:Int)) 19 (9223372039002259466:Int)) 20 (9223372039002292353:Int)) 21 (9223372036854808704:Int)) 22 (2147483649:Int)) 23 (9223372039002292232:Int))
theorem a9s : p_keccak_constants_E.Ok Try.prog := AE.of_ok (all_cons a1Y (all_cons c7I b5)) b5
theorem b0e (hE : p_keccak_constants_E.Ok Try.prog) {g : Ds [] → Option (Rs F4)} (hg : ∀ x r, g x = some r → ∃ N, a2G N x = some r) : b6 Try.prog 82 ⟨[], F4, g⟩ :=
 d6 (E := p_keccak_constants_E) (H := b1E) (L := fun N => LT.nil) (c := b1F) (ks := a0u) (rs := F4) (F := a2G) hE mix Try.func82 (by kernel_rfl) (fun N => OkAll.nil) (fun _ _ => by kernel_rfl) hg
noncomputable abbrev a1G : Sig := ⟨[.int .u64, .int .i64], [.int .u64], x4⟩
noncomputable def p_keccak_mixed_E : AE := AE.of [(3, ty3), (23, ty23), (121, ty121), (131, ty131), (137, ty137)] [(84, a1G)]
noncomputable def X1 : Hints := [(3, [1, 2, 4, 5, 6, 15]), (8, [1, 2, 4, 5, 6, 44]), (14, [1, 2, 4, 6, 9, 62]), (20, [2, 4, 9, 93]), (2000000, [1, 2, 4, 5, 6]), (2000001, [1, 2, 4, 5, 6, 15]), (2000002, [1, 2, 4, 6]), (2000003, [1, 2, 4, 5, 6, 44]), (2000004, [2, 4, 9]), (2000005, [1, 2, 4, 6, 9, 62]), (2000006, [2, 4]), (2000007, [2, 4, 9, 93]), (3000000, [4])]
noncomputable def w9 : Code := (Try.f83).body.getD .skip
noncomputable def b3e : Shape := mkS { tmps := V :: .sc (.ptr 0 0 false) :: .sc (.ptr 1 0 false) :: V :: .sc (.ptr 2 0 false) :: .sc (.ptr 3 0 false) :: .sc (.ptr 4 0 false) :: pv 8 (.sc (.int .i64) :: pv 107 []), mem := [.live [.xs b64 (some 25)] (.ro), .live [.xs (.int .u64) (some 25)] (.own), .live [.xs (.int .u64) (some 25)] (.own), .live [.xs (.int .u64) (some 5)] (.own), .live [.xs (.int .u64) (some 5)] (.own)] } [.int, .xs, .xs, .xs, .xs, .xs]
abbrev W0 : Type := Int × List Int × List Int × List Int × List Int × List Int × Unit
abbrev W1 : Type := List Int × List Int × List Int × List Int × List Int × Unit
noncomputable def J6 (N : Nat) (β : Type) (x : W0) (kn : W0 → Option β) (ke : W1 → Option β) : Option β :=
 if (x.1 < (5:Int)) then
  if 0 ≤ x.1 then (
  if x.1 < 25 then (
  if (x.1.toNat) < 25 then (
  if 0 ≤ (IntKind.i64.wrap (x.1 + (5:Int))) then (
  if (IntKind.i64.wrap (x.1 + (5:Int))) < 25 then (
  if ((IntKind.i64.wrap (x.1 + (5:Int))).toNat) < 25 then (
  if 0 ≤ (IntKind.i64.wrap (x.1 + (10:Int))) then (
  if (IntKind.i64.wrap (x.1 + (10:Int))) < 25 then (
  if ((IntKind.i64.wrap (x.1 + (10:Int))).toNat) < 25 then (
  if 0 ≤ (IntKind.i64.wrap (x.1 + (15:Int))) then (
  if (IntKind.i64.wrap (x.1 + (15:Int))) < 25 then (
  if ((IntKind.i64.wrap (x.1 + (15:Int))).toNat) < 25 then (
  if 0 ≤ (IntKind.i64.wrap (x.1 + (20:Int))) then (
  if (IntKind.i64.wrap (x.1 + (20:Int))) < 25 then (
  if ((IntKind.i64.wrap (x.1 + (20:Int))).toNat) < 25 then (
  if 0 ≤ x.1 then (
  if x.1 < 5 then (
  if (x.1.toNat) < 5 then (
  kn ((IntKind.i64.wrap (x.1 + (1:Int))), x.2.1, x.2.2.1, x.2.2.2.1, (List.set x.2.2.2.2.1 (x.1.toNat) (b9m IntKind.u64 (b9m IntKind.u64 (b9m IntKind.u64 (b9m IntKind.u64 (List.getD x.2.2.1 (x.1.toNat) 0) (List.getD x.2.2.1 ((IntKind.i64.wrap (x.1 + (5:Int))).toNat) 0)) (List.getD x.2.2.1 ((IntKind.i64.wrap (x.1 + (10:Int))).toNat) 0)) (List.getD x.2.2.1 ((IntKind.i64.wrap (x.1 + (15:Int))).toNat) 0)) (List.getD x.2.2.1 ((IntKind.i64.wrap (x.1 + (20:Int))).toNat) 0))), x.2.2.2.2.2.1, ())) else none) else none) else none) else none) else none) else none) else none) else none) else none) else none) else none) else none) else none) else none) else none) else none) else none) else none
 else
  ke (x.2.1, x.2.2.1, x.2.2.2.1, x.2.2.2.2.1, x.2.2.2.2.2.1, ())
noncomputable def b1I : Go' W1 := fun y K => K (.exit 0) (fSt { tmps := V :: .sc (.ptr 0 0 false) :: .sc (.ptr 1 0 false) :: V :: .sc (.ptr 2 0 false) :: .sc (.ptr 3 0 false) :: .sc (.ptr 4 0 false) :: pv 116 [], mem := [.live [.xs b64 (some 25)] (.ro), .live [.xs (.int .u64) (some 25)] (.own), .live [.xs (.int .u64) (some 25)] (.own), .live [.xs (.int .u64) (some 5)] (.own), .live [.xs (.int .u64) (some 5)] (.own)] } [.xs, .xs, .xs, .xs, .xs] y)
noncomputable def a5s (N : Nat) : LT := upd (LT.nil) 3 (C6 b3e N (J6 N) b1I)
theorem b1J (N : Nat) : OkAll p_keccak_mixed_E X1 N (a5s N) (E4 w9) :=
 d8 (c := d9 3 w9) (OkAll.nil) (by kernel_rfl) (fun x => by kernel_rfl) (fun β x kn ke => by kernel_rfl)
noncomputable def b3f : Shape := mkS { tmps := V :: .sc (.ptr 0 0 false) :: .sc (.ptr 1 0 false) :: V :: .sc (.ptr 2 0 false) :: .sc (.ptr 3 0 false) :: .sc (.ptr 4 0 false) :: pv 37 (.sc (.int .i64) :: pv 78 []), mem := [.live [.xs b64 (some 25)] (.ro), .live [.xs (.int .u64) (some 25)] (.own), .live [.xs (.int .u64) (some 25)] (.own), .live [.xs (.int .u64) (some 5)] (.own), .live [.xs (.int .u64) (some 5)] (.own)] } [.int, .xs, .xs, .xs, .xs, .xs]
abbrev W2 : Type := List Int × List Int × List Int × List Int × Unit
noncomputable def J7 (N : Nat) (β : Type) (x : W0) (kn : W0 → Option β) (ke : W2 → Option β) : Option β :=
 if (x.1 < (5:Int)) then
  if 0 ≤ (Int.tmod (IntKind.i64.wrap (x.1 + (4:Int))) (5:Int)) then (
  if (Int.tmod (IntKind.i64.wrap (x.1 + (4:Int))) (5:Int)) < 5 then (
  if ((Int.tmod (IntKind.i64.wrap (x.1 + (4:Int))) (5:Int)).toNat) < 5 then (
  if 0 ≤ (Int.tmod (IntKind.i64.wrap (x.1 + (1:Int))) (5:Int)) then (
  if (Int.tmod (IntKind.i64.wrap (x.1 + (1:Int))) (5:Int)) < 5 then (
  if ((Int.tmod (IntKind.i64.wrap (x.1 + (1:Int))) (5:Int)).toNat) < 5 then (
  (x4 ((List.getD x.2.2.2.2.1 ((Int.tmod (IntKind.i64.wrap (x.1 + (1:Int))) (5:Int)).toNat) 0), (1:Int), ())).bind fun r2 => (
  if 0 ≤ x.1 then (
  if x.1 < 5 then (
  if (x.1.toNat) < 5 then (
  kn ((IntKind.i64.wrap (x.1 + (1:Int))), x.2.1, x.2.2.1, x.2.2.2.1, x.2.2.2.2.1, (List.set x.2.2.2.2.2.1 (x.1.toNat) (b9m IntKind.u64 (List.getD x.2.2.2.2.1 ((Int.tmod (IntKind.i64.wrap (x.1 + (4:Int))) (5:Int)).toNat) 0) r2)), ())) else none) else none) else none)) else none) else none) else none) else none) else none) else none
 else
  ke (x.2.1, x.2.2.1, x.2.2.2.1, x.2.2.2.2.2.1, ())
noncomputable def b1K : Go' W2 := fun y K => K (.exit 2) (fSt { tmps := V :: .sc (.ptr 0 0 false) :: .sc (.ptr 1 0 false) :: V :: .sc (.ptr 2 0 false) :: V :: .sc (.ptr 3 0 false) :: pv 116 [], mem := [.live [.xs b64 (some 25)] (.ro), .live [.xs (.int .u64) (some 25)] (.own), .live [.xs (.int .u64) (some 25)] (.own), .live [.xs (.int .u64) (some 5)] (.own)] } [.xs, .xs, .xs, .xs] y)
noncomputable def a5t (N : Nat) : LT := upd (a5s N) 8 (C6 b3f N (J7 N) b1K)
theorem b1L (N : Nat) : OkAll p_keccak_mixed_E X1 N (a5t N) (E4 w9) :=
 d8 (c := d9 8 w9) (b1J N) (by kernel_rfl) (fun x => by kernel_rfl) (fun β x kn ke => by kernel_rfl)
noncomputable def b1G : Shape := mkS { tmps := V :: .sc (.ptr 0 0 false) :: .sc (.ptr 1 0 false) :: V :: .sc (.ptr 2 0 false) :: V :: .sc (.ptr 3 0 false) :: V :: V :: .sc (.ptr 4 0 false) :: pv 52 (.sc (.int .i64) :: pv 60 []), mem := [.live [.xs b64 (some 25)] (.ro), .live [.xs (.int .u64) (some 25)] (.own), .live [.xs (.int .u64) (some 25)] (.own), .live [.xs (.int .u64) (some 5)] (.own), .live [.xs (.int .u64) (some 25)] (.own)] } [.int, .xs, .xs, .xs, .xs, .xs]
abbrev W3 : Type := List Int × List Int × List Int × Unit
noncomputable def B8 (N : Nat) (β : Type) (x : W0) (kn : W0 → Option β) (ke : W3 → Option β) : Option β :=
 if (x.1 < (25:Int)) then
  if 0 ≤ x.1 then (
  if x.1 < 25 then (
  if (x.1.toNat) < 25 then (
  if 0 ≤ (Int.tmod x.1 (5:Int)) then (
  if (Int.tmod x.1 (5:Int)) < 5 then (
  if ((Int.tmod x.1 (5:Int)).toNat) < 5 then (
  if 0 ≤ x.1 then (
  if x.1 < 25 then (
  if (x.1.toNat) < 25 then (
  (x4 ((b9m IntKind.u64 (List.getD x.2.2.1 (x.1.toNat) 0) (List.getD x.2.2.2.2.1 ((Int.tmod x.1 (5:Int)).toNat) 0)), (List.getD x.2.1 (x.1.toNat) 0), ())).bind fun r4 => (
  if 0 ≤ (IntKind.i64.wrap ((IntKind.i64.wrap ((5:Int) * (Int.tmod (IntKind.i64.wrap ((IntKind.i64.wrap ((2:Int) * (Int.tmod x.1 (5:Int)))) + (IntKind.i64.wrap ((3:Int) * (IntKind.i64.wrap (Int.tdiv x.1 (5:Int))))))) (5:Int)))) + (IntKind.i64.wrap (Int.tdiv x.1 (5:Int))))) then (
  if (IntKind.i64.wrap ((IntKind.i64.wrap ((5:Int) * (Int.tmod (IntKind.i64.wrap ((IntKind.i64.wrap ((2:Int) * (Int.tmod x.1 (5:Int)))) + (IntKind.i64.wrap ((3:Int) * (IntKind.i64.wrap (Int.tdiv x.1 (5:Int))))))) (5:Int)))) + (IntKind.i64.wrap (Int.tdiv x.1 (5:Int))))) < 25 then (
  if ((IntKind.i64.wrap ((IntKind.i64.wrap ((5:Int) * (Int.tmod (IntKind.i64.wrap ((IntKind.i64.wrap ((2:Int) * (Int.tmod x.1 (5:Int)))) + (IntKind.i64.wrap ((3:Int) * (IntKind.i64.wrap (Int.tdiv x.1 (5:Int))))))) (5:Int)))) + (IntKind.i64.wrap (Int.tdiv x.1 (5:Int))))).toNat) < 25 then (
  kn ((IntKind.i64.wrap (x.1 + (1:Int))), x.2.1, x.2.2.1, x.2.2.2.1, x.2.2.2.2.1, (List.set x.2.2.2.2.2.1 ((IntKind.i64.wrap ((IntKind.i64.wrap ((5:Int) * (Int.tmod (IntKind.i64.wrap ((IntKind.i64.wrap ((2:Int) * (Int.tmod x.1 (5:Int)))) + (IntKind.i64.wrap ((3:Int) * (IntKind.i64.wrap (Int.tdiv x.1 (5:Int))))))) (5:Int)))) + (IntKind.i64.wrap (Int.tdiv x.1 (5:Int))))).toNat) r4), ())) else none) else none) else none)) else none) else none) else none) else none) else none) else none) else none) else none) else none
 else
  ke (x.2.2.1, x.2.2.2.1, x.2.2.2.2.2.1, ())
noncomputable def b0f : Go' W3 := fun y K => K (.exit 4) (fSt { tmps := V :: V :: .sc (.ptr 0 0 false) :: V :: .sc (.ptr 1 0 false) :: pv 4 (.sc (.ptr 2 0 false) :: pv 113 []), mem := [.live [.xs (.int .u64) (some 25)] (.own), .live [.xs (.int .u64) (some 25)] (.own), .live [.xs (.int .u64) (some 25)] (.own)] } [.xs, .xs, .xs] y)
noncomputable def a4o (N : Nat) : LT := upd (a5t N) 14 (C6 b1G N (B8 N) b0f)
theorem b0g (N : Nat) : OkAll p_keccak_mixed_E X1 N (a4o N) (E4 w9) :=
 d8 (c := d9 14 w9) (b1L N) (by kernel_rfl) (fun x => by kernel_rfl) (fun β x kn ke => by kernel_rfl)
noncomputable def b1H : Shape := mkS { tmps := V :: V :: .sc (.ptr 0 0 false) :: V :: .sc (.ptr 1 0 false) :: pv 4 (.sc (.ptr 2 0 false) :: pv 83 (.sc (.int .i64) :: pv 29 [])), mem := [.live [.xs (.int .u64) (some 25)] (.own), .live [.xs (.int .u64) (some 25)] (.own), .live [.xs (.int .u64) (some 25)] (.own)] } [.int, .xs, .xs, .xs]
abbrev W4 : Type := Int × List Int × List Int × List Int × Unit
abbrev W5 : Type := List Int × List Int × Unit
noncomputable def B9 (N : Nat) (β : Type) (x : W4) (kn : W4 → Option β) (ke : W5 → Option β) : Option β :=
 if (x.1 < (25:Int)) then
  if 0 ≤ x.1 then (
  if x.1 < 25 then (
  if (x.1.toNat) < 25 then (
  if 0 ≤ (IntKind.i64.wrap ((IntKind.i64.wrap ((IntKind.i64.wrap (Int.tdiv x.1 (5:Int))) * (5:Int))) + (Int.tmod (IntKind.i64.wrap (x.1 + (1:Int))) (5:Int)))) then (
  if (IntKind.i64.wrap ((IntKind.i64.wrap ((IntKind.i64.wrap (Int.tdiv x.1 (5:Int))) * (5:Int))) + (Int.tmod (IntKind.i64.wrap (x.1 + (1:Int))) (5:Int)))) < 25 then (
  if ((IntKind.i64.wrap ((IntKind.i64.wrap ((IntKind.i64.wrap (Int.tdiv x.1 (5:Int))) * (5:Int))) + (Int.tmod (IntKind.i64.wrap (x.1 + (1:Int))) (5:Int)))).toNat) < 25 then (
  if 0 ≤ (IntKind.i64.wrap ((IntKind.i64.wrap ((IntKind.i64.wrap (Int.tdiv x.1 (5:Int))) * (5:Int))) + (Int.tmod (IntKind.i64.wrap (x.1 + (2:Int))) (5:Int)))) then (
  if (IntKind.i64.wrap ((IntKind.i64.wrap ((IntKind.i64.wrap (Int.tdiv x.1 (5:Int))) * (5:Int))) + (Int.tmod (IntKind.i64.wrap (x.1 + (2:Int))) (5:Int)))) < 25 then (
  if ((IntKind.i64.wrap ((IntKind.i64.wrap ((IntKind.i64.wrap (Int.tdiv x.1 (5:Int))) * (5:Int))) + (Int.tmod (IntKind.i64.wrap (x.1 + (2:Int))) (5:Int)))).toNat) < 25 then (
  if 0 ≤ x.1 then (
  if x.1 < 25 then (
  if (x.1.toNat) < 25 then (
  kn ((IntKind.i64.wrap (x.1 + (1:Int))), (List.set x.2.1 (x.1.toNat) (b9m IntKind.u64 (List.getD x.2.2.2.1 (x.1.toNat) 0) (b9j IntKind.u64 (b9m IntKind.u64 (if IntKind.u64.signed then -1 else IntKind.u64.max) (List.getD x.2.2.2.1 ((IntKind.i64.wrap ((IntKind.i64.wrap ((IntKind.i64.wrap (Int.tdiv x.1 (5:Int))) * (5:Int))) + (Int.tmod (IntKind.i64.wrap (x.1 + (1:Int))) (5:Int)))).toNat) 0)) (List.getD x.2.2.2.1 ((IntKind.i64.wrap ((IntKind.i64.wrap ((IntKind.i64.wrap (Int.tdiv x.1 (5:Int))) * (5:Int))) + (Int.tmod (IntKind.i64.wrap (x.1 + (2:Int))) (5:Int)))).toNat) 0)))), x.2.2.1, x.2.2.2.1, ())) else none) else none) else none) else none) else none) else none) else none) else none) else none) else none) else none) else none
 else
  ke (x.2.1, x.2.2.1, ())
noncomputable def b0h : Go' W5 := fun y K => K (.exit 6) (fSt { tmps := V :: V :: .sc (.ptr 0 0 false) :: V :: .sc (.ptr 1 0 false) :: pv 118 [], mem := [.live [.xs (.int .u64) (some 25)] (.own), .live [.xs (.int .u64) (some 25)] (.own)] } [.xs, .xs] y)
noncomputable def a4p (N : Nat) : LT := upd (a4o N) 20 (C6 b1H N (B9 N) b0h)
theorem b0i (N : Nat) : OkAll p_keccak_mixed_E X1 N (a4p N) (E4 w9) :=
 d8 (c := d9 20 w9) (b0g N) (by kernel_rfl) (fun x => by kernel_rfl) (fun β x kn ke => by kernel_rfl)
abbrev R1 : List Kd := [.xs (.int .u64) 25, .rp (.xs b64 25)]
abbrev R3 : List Kd := [.xs (.int .u64) 25]
noncomputable def a3C (N : Nat) (x : List Int × List Int × Unit) : Option (List Int) :=
 E1 (J6 N) N ((0:Int), x.2.1, x.1, (List.replicate 25 0), (List.replicate 5 0), (List.replicate 5 0), ()) fun y1 => (
 E1 (J7 N) N ((0:Int), y1.1, y1.2.1, y1.2.2.1, y1.2.2.2.1, y1.2.2.2.2.1, ()) fun y3 => (
 E1 (B8 N) N ((0:Int), y3.1, y3.2.1, y3.2.2.1, y3.2.2.2.1, (List.replicate 25 0), ()) fun y5 => (
 E1 (B9 N) N ((0:Int), y5.1, y5.2.1, y5.2.2.1, ()) fun y6 => (
 some y6.1))))
theorem b4S (e0 : b6 Try.prog 84 a1G) : p_keccak_mixed_E.Ok Try.prog := AE.of_ok (all_cons a2O (all_cons a1Y (all_cons b02 (all_cons c3k (all_cons d2i b5))))) (all_cons ⟨e0, a7f⟩ b5)
theorem b6F (hE : p_keccak_mixed_E.Ok Try.prog) {g : Ds R1 → Option (Rs R3)} (hg : ∀ x r, g x = some r → ∃ N, a3C N x = some r) : b6 Try.prog 83 ⟨R1, R3, g⟩ :=
 d6 (E := p_keccak_mixed_E) (H := X1) (L := fun N => a4p N) (c := w9) (ks := R1) (rs := R3) (F := a3C) hE mix Try.func83 (by kernel_rfl) (fun N => b0i N) (fun _ _ => by kernel_rfl) hg
noncomputable abbrev a3Z : Sig := ⟨[], [.xs b64 25], a1w⟩
noncomputable abbrev a2f : Sig := ⟨[], [.xs (.int .u64) 24], Y5⟩
noncomputable abbrev a6y : Sig := ⟨[.xs (.int .u64) 25, .rp (.xs b64 25)], [.xs (.int .u64) 25], a3r⟩
noncomputable def p_keccak_Permute_E : AE := AE.of [(23, ty23), (121, ty121), (131, ty131), (133, ty133)] [(81, a3Z), (82, a2f), (83, a6y)]
noncomputable def a6l : Hints := [(3, [1, 2, 3, 7, 8]), (2000000, [1, 2]), (2000001, [1, 2, 3, 7, 8]), (3000000, [2])]
noncomputable def a2F : Code := (Try.f79).body.getD .skip
noncomputable def a99 : Shape := mkS { tmps := V :: .sc (.ptr 0 0 false) :: .sc (.ptr 1 0 false) :: .sc (.ptr 2 0 false) :: pv 3 (.agg [.xs (.int .u64) (some 24)] :: .sc (.int .i64) :: pv 11 []), mem := [.live [.xs (.int .u64) (some 25)] (.own), .live [.xs (.int .u64) (some 25)] (.own), .live [.xs b64 (some 25)] (.own)] } [.xs, .int, .xs, .xs, .xs]
abbrev W6 : Type := List Int × Int × List Int × List Int × List Int × Unit
noncomputable def F3 (N : Nat) (β : Type) (x : W6) (kn : W6 → Option β) (ke : W5 → Option β) : Option β :=
 if (x.2.1 < (24:Int)) then
  if 0 ≤ x.2.1 then (
  if x.2.1 < 24 then (
  if (x.2.1.toNat) < 24 then (
  (a3r (x.2.2.1, x.2.2.2.2.1, ())).bind fun r3 => (
  kn (x.1, (IntKind.i64.wrap (x.2.1 + (1:Int))), (List.set r3 0 (b9m IntKind.u64 (List.getD r3 0 0) (List.getD x.1 (x.2.1.toNat) 0))), x.2.2.2.1, x.2.2.2.2.1, ()))) else none) else none) else none
 else
  ke (x.2.2.1, x.2.2.2.1, ())
noncomputable def a9q : Go' W5 := fun y K => K (.exit 0) (fSt { tmps := V :: .sc (.ptr 0 0 false) :: .sc (.ptr 1 0 false) :: pv 17 [], mem := [.live [.xs (.int .u64) (some 25)] (.own), .live [.xs (.int .u64) (some 25)] (.own)] } [.xs, .xs] y)
noncomputable def a3U (N : Nat) : LT := upd (LT.nil) 3 (C6 a99 N (F3 N) a9q)
theorem a9r (N : Nat) : OkAll p_keccak_Permute_E a6l N (a3U N) (E4 a2F) :=
 d8 (c := d9 3 a2F) (OkAll.nil) (by kernel_rfl) (fun x => by kernel_rfl) (fun β x kn ke => by kernel_rfl)
abbrev x6 : List Kd := [.xs (.int .u64) 25]
abbrev a1W : List Kd := [.xs (.int .u64) 25]
noncomputable def a1C (N : Nat) (x : List Int × Unit) : Option (List Int) :=
 (a1w (())).bind fun r1 => (
 (Y5 (())).bind fun r2 => (
 E1 (F3 N) N (r2, (0:Int), x.1, (List.replicate 25 0), r1, ()) fun y4 => (
 some y4.1)))
theorem b1z (e0 : b6 Try.prog 81 a3Z) (e1 : b6 Try.prog 82 a2f) (e2 : b6 Try.prog 83 a6y) : p_keccak_Permute_E.Ok Try.prog := AE.of_ok (all_cons a1Y (all_cons b02 (all_cons c3k (all_cons c7I b5)))) (all_cons ⟨e0, a9N⟩ (all_cons ⟨e1, a78⟩ (all_cons ⟨e2, b2t⟩ b5)))
theorem b25 (hE : p_keccak_Permute_E.Ok Try.prog) {g : Ds x6 → Option (Rs x6)} (hg : ∀ x r, g x = some r → ∃ N, a1C N x = some r) : b6 Try.prog 79 ⟨x6, x6, g⟩ :=
 d6 (E := p_keccak_Permute_E) (H := a6l) (L := fun N => a3U N) (c := a2F) (ks := x6) (rs := a1W) (F := a1C) hE mix Try.func79 (by kernel_rfl) (fun N => a9r N) (fun _ _ => by kernel_rfl) hg
end Go.Ax.TryP
set_option linter.unusedVariables false
namespace Go.Ax.TryP
open Go.Proofs
abbrev z25 : List Int := List.replicate 25 0
abbrev z5 : List Int := List.replicate 5 0
theorem d6a (x : Int) : 0 ≤ IntKind.u64.wrap x ∧ IntKind.u64.wrap x ≤ 18446744073709551615 := by
 simp [IntKind.wrap, IntKind.signed, IntKind.bits]; omega
theorem d0Y (a b : Int) : 0 ≤ x64 a b ∧ x64 a b ≤ 18446744073709551615 := d6a _
theorem d6r (a : List Int) (x : Nat) : 0 ≤ cF a x ∧ cF a x ≤ 18446744073709551615 := d0Y _ _
theorem d5A {a n : Int} : a2U [.int .u64, .int .i64] (a, n, ()) ↔ (0 ≤ a ∧ a ≤ 18446744073709551615) ∧ (-9223372036854775808 ≤ n ∧ n ≤ 9223372036854775807) := by
 have h1 : Kd.wf (.int .u64) a ↔ _ := b30
 have h2 : Kd.wf (.int .i64) n ↔ _ := j7
 simp only [a2U, and_true, h1, h2]
theorem d2s {a n : Int} (h : 0 ≤ a ∧ a ≤ 18446744073709551615) (hn : 0 ≤ n ∧ n < 64) : x4 (a, n, ()) = some (rot a n) :=
 c7 (ks := C7) (rs := Y2) (x := (a, n, ())) (d5A.2 ⟨h, by omega⟩) hn
theorem m3 (N : Nat) {β : Type} (a tn : List Int) (kn : _ → Option β) (k : _ → Option β) : ∀ i : Nat, i < 5 → J6 N β ((i : Int), tn, a, z25, part (cF a) i z5, z5, ()) kn k = kn (((i + 1 : Nat) : Int), tn, a, z25, part (cF a) (i + 1) z5, z5, ())
 | 0, _ => by kernel_rfl
 | 1, _ => by kernel_rfl
 | 2, _ => by kernel_rfl
 | 3, _ => by kernel_rfl
 | 4, _ => by kernel_rfl
 | n + 5, h => absurd h (by omega)
theorem m8 (N : Nat) {β : Type} (a tn : List Int) (kn : _ → Option β) (k : _ → Option β) : ∀ i : Nat, i < 5 → J7 N β ((i : Int), tn, a, z25, (List.range 5).map (cF a), part (dF a) i z5, ()) kn k
  = (x4 (cF a ((i + 1) % 5), 1, ())).bind fun r => kn (((i + 1 : Nat) : Int), tn, a, z25, (List.range 5).map (cF a), (part (dF a) i z5).set i (x64 (cF a ((i + 4) % 5)) r), ())
 | 0, _ => by kernel_rfl
 | 1, _ => by kernel_rfl
 | 2, _ => by kernel_rfl
 | 3, _ => by kernel_rfl
 | 4, _ => by kernel_rfl
 | n + 5, h => absurd h (by omega)
theorem m8s (a : List Int) : ∀ i : Nat, i < 5 → (part (dF a) i z5).set i (x64 (cF a ((i + 4) % 5)) (rot (cF a ((i + 1) % 5)) 1)) = part (dF a) (i + 1) z5
 | 0, _ => by kernel_rfl
 | 1, _ => by kernel_rfl
 | 2, _ => by kernel_rfl
 | 3, _ => by kernel_rfl
 | 4, _ => by kernel_rfl
 | n + 5, h => absurd h (by omega)
def bAt (a : List Int) (i : Nat) : List Int := (List.range 25).map fun j => if d4n j < i then bF a j else 0
theorem m14 (N : Nat) {β : Type} (a b : List Int) (kn : _ → Option β) (k : _ → Option β) : ∀ i : Nat, i < 25 → B8 N β ((i : Int), offs, a, z25, (List.range 5).map (dF a), b, ()) kn k
  = (x4 (x64 (at0 a i) (dF a (i % 5)), offs.getD i 0, ())).bind fun r => kn (((i + 1 : Nat) : Int), offs, a, z25, (List.range 5).map (dF a), b.set (to5 i) r, ())
 | 0, _ => by kernel_rfl
 | 1, _ => by kernel_rfl
 | 2, _ => by kernel_rfl
 | 3, _ => by kernel_rfl
 | 4, _ => by kernel_rfl
 | 5, _ => by kernel_rfl
 | 6, _ => by kernel_rfl
 | 7, _ => by kernel_rfl
 | 8, _ => by kernel_rfl
 | 9, _ => by kernel_rfl
 | 10, _ => by kernel_rfl
 | 11, _ => by kernel_rfl
 | 12, _ => by kernel_rfl
 | 13, _ => by kernel_rfl
 | 14, _ => by kernel_rfl
 | 15, _ => by kernel_rfl
 | 16, _ => by kernel_rfl
 | 17, _ => by kernel_rfl
 | 18, _ => by kernel_rfl
 | 19, _ => by kernel_rfl
 | 20, _ => by kernel_rfl
 | 21, _ => by kernel_rfl
 | 22, _ => by kernel_rfl
 | 23, _ => by kernel_rfl
 | 24, _ => by kernel_rfl
 | n + 25, h => absurd h (by omega)
theorem d3Z {f g : Nat → Int} {n k : Nat} {v : Int} (h : ∀ j, j < n → g j = if j = k then v else f j) : ((List.range n).map f).set k v = (List.range n).map g := by
 refine rows.ext (n := n) (by simp) (by simp) fun j hj => ?_
 rw [u9 hj, h j hj]
 by_cases e : j = k
 ·subst e; rw [if_pos rfl, a1N (by simpa using hj)]
 ·rw [if_neg e, getD_set_ne (fun h => e h.symm), u9 hj]
theorem d2U : ∀ i : Nat, i < 25 → ∀ j : Nat, j < 25 → (j = to5 i ↔ d4n j = i) := by decide
theorem d6u (a : List Int) (i : Nat) (hi : i < 25) : (bAt a i).set (to5 i) (rot (x64 (at0 a i) (dF a (i % 5))) (offs.getD i 0)) = bAt a (i + 1) := by
 refine d3Z fun j hj => ?_
 by_cases e : j = to5 i
 ·rw [if_pos e]
  have e2 := (d2U i hi j hj).1 e
  rw [if_pos (by omega)]
  unfold bF tF
  rw [e2]
 ·rw [if_neg e]
  have e2 : d4n j ≠ i := fun h => e ((d2U i hi j hj).2 h)
  by_cases h : d4n j < i
  ·rw [if_pos h, if_pos (by omega)]
  ·rw [if_neg h, if_neg (by omega)]
theorem d48 : ∀ i : Nat, i < 25 → 0 ≤ offs.getD i 0 ∧ offs.getD i 0 < 64 := by decide
theorem m20 (N : Nat) {β : Type} (a c : List Int) (kn : _ → Option β) (k : _ → Option β) : ∀ i : Nat, i < 25 → B9 N β ((i : Int), c, z25, (List.range 25).map (bF a), ()) kn k
  = kn (((i + 1 : Nat) : Int), c.set i (eF (bF a) i), z25, (List.range 25).map (bF a), ())
 | 0, _ => by kernel_rfl
 | 1, _ => by kernel_rfl
 | 2, _ => by kernel_rfl
 | 3, _ => by kernel_rfl
 | 4, _ => by kernel_rfl
 | 5, _ => by kernel_rfl
 | 6, _ => by kernel_rfl
 | 7, _ => by kernel_rfl
 | 8, _ => by kernel_rfl
 | 9, _ => by kernel_rfl
 | 10, _ => by kernel_rfl
 | 11, _ => by kernel_rfl
 | 12, _ => by kernel_rfl
 | 13, _ => by kernel_rfl
 | 14, _ => by kernel_rfl
 | 15, _ => by kernel_rfl
 | 16, _ => by kernel_rfl
 | 17, _ => by kernel_rfl
 | 18, _ => by kernel_rfl
 | 19, _ => by kernel_rfl
 | 20, _ => by kernel_rfl
 | 21, _ => by kernel_rfl
 | 22, _ => by kernel_rfl
 | 23, _ => by kernel_rfl
 | 24, _ => by kernel_rfl
 | n + 25, h => absurd h (by omega)
def u64s (n : Nat) (a : List Int) : Prop := rows 0 18446744073709551615 n a
theorem c3n {n : Nat} {a : List Int} : Kd.wf (.xs (.int .u64) n) a ↔ u64s n a := by simp [Kd.wf, u64s, rows, b30]
theorem u64s.at {n : Nat} {a : List Int} (h : u64s n a) (i : Nat) : 0 ≤ at0 a i ∧ at0 a i ≤ 18446744073709551615 := rows.at h (by omega) i
theorem d6t (b : Nat → Int) (i : Nat) : 0 ≤ eF b i ∧ eF b i ≤ 18446744073709551615 := d0Y _ _
theorem d46 (a : List Int) : u64s 25 (d3K a) := rows.range fun i _ => d6t _ i
theorem d15 (a : List Int) (c : Int) : u64s 25 (d2O a c) := rows.set (d46 a) (d0Y _ _)
theorem d0q {a : List Int} (h : u64s 25 a) : ∀ n : Nat, u64s 25 (d1Y n a)
 | 0 => h
 | n + 1 => d15 _ _
theorem c5V {a : List Int} (h : u64s 25 a) : u64s 25 (c4u a) := d0q h 24
theorem b8o : ∀ x r, a1w x = some r → ∃ N, a4d N x = some r :=
 c8 (ks := a1X) (rs := J8) fun x _ _ => ⟨0, by kernel_rfl⟩
theorem b5c : ∀ x r, Y5 x = some r → ∃ N, a2G N x = some r :=
 c8 (ks := a0u) (rs := F4) fun x _ _ => ⟨0, by kernel_rfl⟩
theorem c7T : a1w () = some offs := c7 (ks := a1X) (rs := J8) (x := ()) trivial trivial
theorem c3D : Y5 () = some cons := c7 (ks := a0u) (rs := F4) (x := ()) trivial trivial
theorem b3m : ∀ x r, x4 x = some r → ∃ N, S8 N x = some r := by
 refine c8 (ks := C7) (rs := Y2) fun x hw hq => ⟨0, ?_⟩
 obtain ⟨(a : Int), (n : Int), u⟩ := x
 have hq : 0 ≤ n ∧ n < 64 := hq
 obtain ⟨ha, _⟩ := d5A.1 hw
 obtain ⟨m, rfl⟩ : ∃ m : Nat, n = m := ⟨n.toNat, by omega⟩
 have e : b9j IntKind.u64 (m : Int) 63 = m := by
  rw [show (63 : Int) = ((63 : Nat) : Int) from rfl, c2s rfl (by simp [IntKind.bits]; omega) (by decide)]
  rw [show (63 : Nat) = 2 ^ 6 - 1 from rfl, Nat.and_two_pow_sub_one_eq_mod, Nat.mod_eq_of_lt (by omega)]
 unfold S8 rot
 dsimp only
 rw [c3o (x := (m : Int)) (by omega) (by omega), e, c3o (x := 64 - (m : Int)) (by omega) (by omega), if_neg (by omega), if_neg (by omega)]
 split
 ·rename_i h0
  have h0 : m = 0 := by omega
  subst h0
  obtain ⟨k, rfl⟩ : ∃ k : Nat, a = k := ⟨a.toNat, by omega⟩
  have h1 : b1X IntKind.u64 (k : Int) ((0 : Nat) : Int) = k := by rw [c2v rfl (by decide) (by simp [IntKind.bits]; omega)]; simp
  have h2 : c2w IntKind.u64 (k : Int) (64 - ((0 : Nat) : Int)) = ((0 : Nat) : Int) := by
   rw [show (64 - ((0 : Nat) : Int)) = ((64 : Nat) : Int) from rfl, b8E (by decide)]
   rw [Nat.div_eq_of_lt (by omega)]
  rw [h1, h2, c2t rfl (by simp [IntKind.bits]; omega) (by decide)]
  simp
 ·rfl
theorem l3_all {a tn : List Int} {β : Type} {k : _ → Option β} : E1 (J6 26) 26 ((0 : Int), tn, a, z25, z5, z5, ()) k = k (tn, a, z25, (List.range 5).map (cF a), z5, ()) := by
 refine j6 (F := J6 26) (s := fun i => ((i : Int), tn, a, z25, part (cF a) i z5, z5, ())) (y := (tn, a, z25, (List.range 5).map (cF a), z5, ())) 5 ?_ ?_ ?_ 26 (by omega)
 ·kernel_rfl
 ·exact fun i hi kn => m3 26 a tn kn k i hi
 ·intro kn; kernel_rfl
theorem l8_all {a tn : List Int} {β : Type} {k : _ → Option β} : E1 (J7 26) 26 ((0 : Int), tn, a, z25, (List.range 5).map (cF a), z5, ()) k = k (tn, a, z25, (List.range 5).map (dF a), ()) := by
 refine j6 (F := J7 26) (s := fun i => ((i : Int), tn, a, z25, (List.range 5).map (cF a), part (dF a) i z5, ())) (y := (tn, a, z25, (List.range 5).map (dF a), ())) 5 ?_ ?_ ?_ 26 (by omega)
 ·kernel_rfl
 ·intro i hi kn
  refine (m8 26 a tn kn k i hi).trans ?_
  rw [d2s (d6r _ _) (by omega), Option.bind_some, m8s a i hi]
 ·intro kn; kernel_rfl
theorem l14_all {a : List Int} {β : Type} {k : _ → Option β} : E1 (B8 26) 26 ((0 : Int), offs, a, z25, (List.range 5).map (dF a), z25, ()) k = k (a, z25, (List.range 25).map (bF a), ()) := by
 refine j6 (F := B8 26) (s := fun i => ((i : Int), offs, a, z25, (List.range 5).map (dF a), bAt a i, ())) (y := (a, z25, (List.range 25).map (bF a), ())) 25 ?_ ?_ ?_ 26 (by omega)
 ·kernel_rfl
 ·intro i hi kn
  refine (m14 26 a (bAt a i) kn k i hi).trans ?_
  rw [d2s (d0Y _ _) (d48 i hi), Option.bind_some, d6u a i hi]
 ·intro kn
  have e : bAt a 25 = (List.range 25).map (bF a) := by
   refine List.map_congr_left fun j hj => ?_
   have hj : j < 25 := List.mem_range.1 hj
   rw [if_pos]
   unfold d4n; omega
  show B8 26 β ((25 : Nat), offs, a, z25, (List.range 5).map (dF a), bAt a 25, ()) kn k = _
  rw [e]
  kernel_rfl
theorem d3J {a : List Int} (ha : a.length = 25) {β : Type} {k : _ → Option β} : E1 (B9 26) 26 ((0 : Int), a, z25, (List.range 25).map (bF a), ()) k = k (d3K a, z25, ()) := by
 refine j6 (F := B9 26) (s := fun i => ((i : Int), part (eF (bF a)) i a, z25, (List.range 25).map (bF a), ())) (y := (d3K a, z25, ())) 25 ?_ ?_ ?_ 26 (by omega)
 ·rw [b47]; rfl
 ·intro i hi kn
  refine (m20 26 a _ kn k i hi).trans ?_
  rw [b8I (by rw [ha]; exact hi)]
 ·intro kn
  show B9 26 β ((25 : Nat), part (eF (bF a)) 25 a, z25, (List.range 25).map (bF a), ()) kn k = _
  rw [N9 ha]
  kernel_rfl
theorem c1h : ∀ x r, a3r x = some r → ∃ N, a3C N x = some r := by
 refine c8 (ks := R1) (rs := R3) fun x hw hq => ⟨26, ?_⟩
 obtain ⟨(a : List Int), (tn : List Int), u⟩ := x
 have hq : tn = offs := hq
 subst hq
 have ha : u64s 25 a := c3n.1 hw.1
 unfold a3C
 refine l3_all.trans ?_
 refine l8_all.trans ?_
 refine l14_all.trans ?_
 exact d3J ha.1
theorem d3N : Kd.wf (.rp (.xs (.int .i64) 25)) offs := by
 refine ⟨rfl, fun z hz => ?_⟩
 have h : ∀ z ∈ offs, 0 ≤ z ∧ z < 64 := by decide
 have := h z hz
 exact j7.2 (by omega)
theorem d1i {a : List Int} (ha : u64s 25 a) : a3r (a, offs, ()) = some (d3K a) :=
 c7 (ks := R1) (rs := R3) (x := (a, offs, ())) ⟨c3n.2 ha, d3N, trivial⟩ rfl
theorem d42 {a : List Int} (ha : u64s 25 a) {β : Type} {k : _ → Option β} : E1 (F3 26) 26 (cons, (0 : Int), a, z25, offs, ()) k = k (c4u a, z25, ()) := by
 refine j6 (F := F3 26) (s := fun i => (cons, (i : Int), d1Y i a, z25, offs, ())) (y := (c4u a, z25, ())) 24 rfl ?_ ?_ 26 (by omega)
 ·intro i hi kn
  have hp := d0q ha i
  unfold F3
  dsimp only
  rw [if_pos (by omega), if_pos (by omega), if_pos (by omega), if_pos (by omega), d1i hp, Option.bind_some, b7 (by omega) (by omega), Int.toNat_natCast]
  rfl
 ·intro kn
  rfl
theorem b8n : ∀ x r, G4 x = some r → ∃ N, a1C N x = some r := by
 refine c8 (ks := x6) (rs := a1W) fun x hw hq => ⟨26, ?_⟩
 obtain ⟨(a : List Int), u⟩ := x
 have ha : u64s 25 a := c3n.1 hw.1
 unfold a1C
 rw [c7T, Option.bind_some, c3D, Option.bind_some]
 exact (d42 ha).trans rfl
theorem c5l {a : List Int} (ha : u64s 25 a) : G4 (a, ()) = some (c4u a) :=
 c7 (ks := x6) (rs := a1W) (x := (a, ())) ⟨c3n.2 ha, trivial⟩ trivial
end Go.Ax.TryP
set_option linter.unusedVariables false
namespace Go.Ax.TryP
open Go.Proofs
def d2L (a : List Int) (p : Nat) (x : Int) : List Int := a.set (p / 8) (x64 (at0 a (p / 8)) (b1X .u64 x ((8 * (p % 8) : Nat) : Int)))
def c8Z (rate : Nat) (s : List Int × Nat) (x : Int) : List Int × Nat := if s.2 + 1 = rate then (c4u (d2L s.1 s.2 x), 0) else (d2L s.1 s.2 x, s.2 + 1)
def b0N (rate : Nat) (s : List Int × Nat) (l : List Int) : List Int × Nat := l.foldl (c8Z rate) s
def Z8 (rate : Nat) (e : Int) (s : List Int × Nat) (l : List Int) : List Int :=
 c4u (d2L (d2L (b0N rate s l).1 (b0N rate s l).2 e) (rate - 1) 128)
def b0r : Nat → List Int → List Int
 | 0, a => a
 | n + 1, a => c4u (b0r n a)
def d2A (a : List Int) (i : Nat) : Int := IntKind.u8.wrap (c2w .u64 (at0 a (i / 8)) ((8 * (i % 8) : Nat) : Int))
def b3y (rate : Nat) (a : List Int) (p : Nat) : Int := d2A (b0r (p / rate) a) (p % rate)
def T7 (rate : Nat) (a : List Int) (p : Nat) : List Int × Nat := (b0r ((p - 1) / rate) a, p - (p - 1) / rate * rate)
def b31 (r : Int) : Prop := 8 ≤ r ∧ r ≤ 200
abbrev Sp := List Int × Int × Int × Unit
noncomputable def D5 : Sp × Int × Unit → Option Sp := P0 (ks := [.io [.xs (.int .u64) 25, .int .i64, .int .i64], .int .u8]) (rs := [.cat [.xs (.int .u64) 25, .int .i64, .int .i64]]) (fun x => 0 ≤ x.1.2.2.1 ∧ x.1.2.2.1 < 200) fun x => (d2L x.1.1 x.1.2.2.1.toNat x.2.1, x.1.2.1, x.1.2.2.1, ())
noncomputable def M1 : Sp × Int × List (List Int) × Unit → Option Sp := P0 (ks := [.io [.xs (.int .u64) 25, .int .i64, .int .i64], .int .u8, .sls (.int .u8)]) (rs := [.cat [.xs (.int .u64) 25, .int .i64, .int .i64]])
 (fun x => b31 x.1.2.1 ∧ 0 ≤ x.1.2.2.1 ∧ x.1.2.2.1 < x.1.2.1) fun x => (Z8 x.1.2.1.toNat x.2.1 (x.1.1, x.1.2.2.1.toNat) x.2.2.1.flatten, x.1.2.1, 0, ())
noncomputable def M0 : Sp × List Int × Unit → Option (Sp × List Int) := P0 (ks := [.io [.xs (.int .u64) 25, .int .i64, .int .i64], .ios (.int .u8)]) (rs := [.cat [.xs (.int .u64) 25, .int .i64, .int .i64], .xv (.int .u8)])
 (fun x => b31 x.1.2.1 ∧ 0 ≤ x.1.2.2.1 ∧ x.1.2.2.1 ≤ x.1.2.1)
 fun x => (((T7 x.1.2.1.toNat x.1.1 (x.1.2.2.1.toNat + x.2.1.length)).1, x.1.2.1, ((T7 x.1.2.1.toNat x.1.1 (x.1.2.2.1.toNat + x.2.1.length)).2 : Int), ()), (List.range x.2.1.length).map fun k => b3y x.1.2.1.toNat x.1.1 (x.1.2.2.1.toNat + k))
abbrev Xf := Bool × List Int × Int × Int × Int × Unit
noncomputable def a0E : Xf × Unit → Option (Bool × Xf) := P0 (ks := [.io [.bool, .xs (.int .u64) 25, .int .i64, .int .i64, .int .i64]]) (rs := [.bool, .cat [.bool, .xs (.int .u64) 25, .int .i64, .int .i64, .int .i64]]) (fun _ => True) fun x => (!x.1.1, x.1)
def d4P (n : Int) : Int := if n < 0 then 1 else if 1048576 < n then 3 else 0
noncomputable def a11 : Int × Unit → Option Int := P0 (ks := [.int .i64]) (rs := [.int .i64]) (fun _ => True) fun x => d4P x.1
noncomputable def l9 : Xf × Int × Unit → Option (List Int × Int × Xf) := P0 (ks := [.io [.bool, .xs (.int .u64) 25, .int .i64, .int .i64, .int .i64], .int .i64]) (rs := [.sl (.int .u8), .int .i64, .cat [.bool, .xs (.int .u64) 25, .int .i64, .int .i64, .int .i64]])
 (fun x => x.1.1 = true ∧ 0 ≤ x.2.1 ∧ x.2.1 ≤ 1048576 ∧ b31 x.1.2.2.1 ∧ 0 ≤ x.1.2.2.2.1 ∧ x.1.2.2.2.1 ≤ x.1.2.2.1)
 fun x => ((List.range x.2.1.toNat).map (fun k => b3y x.1.2.2.1.toNat x.1.2.1 (x.1.2.2.2.1.toNat + k)), 0,
  (true, (T7 x.1.2.2.1.toNat x.1.2.1 (x.1.2.2.2.1.toNat + x.2.1.toNat)).1, x.1.2.2.1, ((T7 x.1.2.2.1.toNat x.1.2.1 (x.1.2.2.2.1.toNat + x.2.1.toNat)).2 : Int), IntKind.i64.wrap (x.1.2.2.2.2.1 + x.2.1), ()))
noncomputable def U7 : Int × List (List Int) × Unit → Option Xf := P0 (ks := [.int .i64, .sls (.int .u8)]) (rs := [.op [.bool, .xs (.int .u64) 25, .int .i64, .int .i64, .int .i64]]) (fun x => b31 x.1) fun x => (true, Z8 x.1.toNat 31 (z25, 0) x.2.1.flatten, x.1, 0, 0, ())
noncomputable def D4 : List (List Int) × Unit → Option Xf := P0 (ks := [.sls (.int .u8)]) (rs := [.op [.bool, .xs (.int .u64) 25, .int .i64, .int .i64, .int .i64]]) (fun _ => True) fun x => (true, Z8 168 31 (z25, 0) x.1.flatten, 168, 0, 0, ())
def a4g (rate : Nat) (e : Int) (l : List Int) (n : Nat) : List Int := (List.range n).map (b3y rate (Z8 rate e (z25, 0) l))
noncomputable def P4 : List (List Int) × Unit → Option Xf := P0 (ks := [.sls (.int .u8)]) (rs := [.op [.bool, .xs (.int .u64) 25, .int .i64, .int .i64, .int .i64]]) (fun _ => True) fun x => (true, Z8 136 31 (z25, 0) x.1.flatten, 136, 0, 0, ())
noncomputable def Y1 : Int × Int × List (List Int) × Unit → Option (List Int × Int) := P0 (ks := [.int .i64, .int .i64, .sls (.int .u8)]) (rs := [.sl (.int .u8), .int .i64]) (fun x => (x.1 = 128 ∨ x.1 = 256) ∧ 0 ≤ x.2.1 ∧ x.2.1 ≤ 1048576) fun x => (a4g (if x.1 = 128 then 168 else 136) 31 x.2.2.1.flatten x.2.1.toNat, 0)
def shk (l : List Int) (p : Nat) : Int := b3y 168 (Z8 168 31 (z25, 0) l) p
def shb (l : List Int) (p : Nat) : Int := b3y 136 (Z8 136 31 (z25, 0) l) p
end Go.Ax.TryP
set_option linter.unusedVariables false
namespace Go.Ax.TryP
open Go.Proofs
noncomputable def p_keccak_sponge_put_E : AE := AE.of [(3, ty3), (5, ty5), (23, ty23), (121, ty121), (123, ty123)] []
noncomputable def b0j : Hints := [(3000000, [])]
noncomputable def b0k : Code := (Try.f80).body.getD .skip
abbrev D2 : List Kd := [.io [.xs (.int .u64) 25, .int .i64, .int .i64], .int .u8]
abbrev D3 : List Kd := [.cat [.xs (.int .u64) 25, .int .i64, .int .i64]]
noncomputable def T4 (N : Nat) (x : (List Int × Int × Int × Unit) × Int × Unit) : Option ((List Int × Int × Int × Unit)) :=
 if 0 ≤ (IntKind.i64.wrap (Int.tdiv x.1.2.2.1 (8:Int))) then (
 if (IntKind.i64.wrap (Int.tdiv x.1.2.2.1 (8:Int))) < 25 then (
 if ((IntKind.i64.wrap (Int.tdiv x.1.2.2.1 (8:Int))).toNat) < 25 then (
 if (IntKind.i64.wrap ((8:Int) * (Int.tmod x.1.2.2.1 (8:Int)))) < 0 then none else (
 if 0 ≤ (IntKind.i64.wrap (Int.tdiv x.1.2.2.1 (8:Int))) then (
 if (IntKind.i64.wrap (Int.tdiv x.1.2.2.1 (8:Int))) < 25 then (
 if ((IntKind.i64.wrap (Int.tdiv x.1.2.2.1 (8:Int))).toNat) < 25 then (
 some ((List.set x.1.1 ((IntKind.i64.wrap (Int.tdiv x.1.2.2.1 (8:Int))).toNat) (b9m IntKind.u64 (List.getD x.1.1 ((IntKind.i64.wrap (Int.tdiv x.1.2.2.1 (8:Int))).toNat) 0) (b1X IntKind.u64 (IntKind.u64.wrap x.2.1) (IntKind.i64.wrap ((8:Int) * (Int.tmod x.1.2.2.1 (8:Int))))))), x.1.2.1, x.1.2.2.1, ())) else none) else none) else none)) else none) else none) else none
theorem a8C : p_keccak_sponge_put_E.Ok Try.prog := AE.of_ok (all_cons a2O (all_cons S6 (all_cons a1Y (all_cons b02 (all_cons b5q b5))))) b5
theorem a9t (hE : p_keccak_sponge_put_E.Ok Try.prog) {g : Ds D2 → Option (Rs D3)} (hg : ∀ x r, g x = some r → ∃ N, T4 N x = some r) : b6 Try.prog 80 ⟨D2, D3, g⟩ :=
 d6 (E := p_keccak_sponge_put_E) (H := b0j) (L := fun N => LT.nil) (c := b0k) (ks := D2) (rs := D3) (F := T4) hE mix Try.func80 (by kernel_rfl) (fun N => OkAll.nil) (fun _ _ => by kernel_rfl) hg
noncomputable abbrev a1J : Sig := ⟨[.io [.xs (.int .u64) 25, .int .i64, .int .i64], .int .u8], [.cat [.xs (.int .u64) 25, .int .i64, .int .i64]], D5⟩
noncomputable abbrev U1 : Sig := ⟨[.xs (.int .u64) 25], [.xs (.int .u64) 25], G4⟩
noncomputable def p_keccak_sponge_takes_E : AE := AE.of [(3, ty3), (5, ty5), (26, ty26), (38, ty38), (121, ty121), (123, ty123)] [(80, a1J), (79, U1)]
noncomputable def T5 : Hints := [(1, [0, 1, 10, 11, 12]), (4, [0, 1, 10, 11, 12, 16, 17, 18]), (2000000, [0, 1]), (2000001, [0, 1, 10, 11, 12]), (2000002, [0, 1, 10, 11, 12]), (2000003, [0, 1, 10, 11, 12, 16, 17, 18]), (3000000, [])]
noncomputable def B7 : Code := (Try.f78).body.getD .skip
noncomputable def a5W : Shape := mkS { tmps := .sc (.ptr 0 0 false) :: .sc (.int .u8) :: pv 8 (.sc (.frs b8) :: .sc (.int .i64) :: .sc (.int .i64) :: pv 3 (.sc (.fr b8) :: .sc (.int .i64) :: .sc (.int .i64) :: pv 59 [])), mem := [.live [.xs (.int .u64) (some 25), .one (.int .i64), .one (.int .i64)] (.mt 0)] } [.int, .xss, .int, .int, .xs, .int, .int, .xs, .int, .int]
abbrev W7 : Type := Int × List (List Int) × Int × Int × List Int × Int × Int × List Int × Int × Int × Unit
abbrev W8 : Type := Int × List (List Int) × Int × Int × List Int × Int × Int × Unit
noncomputable def i6 (N : Nat) (β : Type) (x : W7) (kn : W7 → Option β) (ke : W8 → Option β) : Option β :=
 if (x.2.2.2.2.2.2.1 < x.2.2.2.2.2.1) then
  if 0 ≤ x.2.2.2.2.2.2.1 then (
  if x.2.2.2.2.2.2.1 < ((List.length x.2.2.2.2.1 : Nat) : Int) then (
  (D5 ((x.2.2.2.2.2.2.2.1, x.2.2.2.2.2.2.2.2.1, x.2.2.2.2.2.2.2.2.2.1, ()), (List.getD x.2.2.2.2.1 (x.2.2.2.2.2.2.1.toNat) 0), ())).bind fun r1 => (
  if ((IntKind.i64.wrap (r1.2.2.1 + (1:Int))) = r1.2.1) then
   (G4 (r1.1, ())).bind fun r2 => (
   kn (x.1, x.2.1, x.2.2.1, x.2.2.2.1, x.2.2.2.2.1, x.2.2.2.2.2.1, (IntKind.i64.wrap (x.2.2.2.2.2.2.1 + (1:Int))), r2, r1.2.1, (0:Int), ()))
  else
   kn (x.1, x.2.1, x.2.2.1, x.2.2.2.1, x.2.2.2.2.1, x.2.2.2.2.2.1, (IntKind.i64.wrap (x.2.2.2.2.2.2.1 + (1:Int))), r1.1, r1.2.1, (IntKind.i64.wrap (r1.2.2.1 + (1:Int))), ()))) else none) else none
 else
  ke (x.1, x.2.1, x.2.2.1, x.2.2.2.1, x.2.2.2.2.2.2.2.1, x.2.2.2.2.2.2.2.2.1, x.2.2.2.2.2.2.2.2.2.1, ())
noncomputable def a5y : Go' W8 := fun y K => K (.exit 2) (fSt { tmps := .sc (.ptr 0 0 false) :: .sc (.int .u8) :: pv 8 (.sc (.frs b8) :: .sc (.int .i64) :: .sc (.int .i64) :: pv 65 []), mem := [.live [.xs (.int .u64) (some 25), .one (.int .i64), .one (.int .i64)] (.mt 0)] } [.int, .xss, .int, .int, .xs, .int, .int] y)
noncomputable def a0S (N : Nat) : LT := upd (LT.nil) 4 (C6 a5W N (i6 N) a5y)
theorem a5z (N : Nat) : OkAll p_keccak_sponge_takes_E T5 N (a0S N) (E4 B7) :=
 d8 (c := d9 4 B7) (OkAll.nil) (by kernel_rfl) (fun x => by kernel_rfl) (fun β x kn ke => by kernel_rfl)
noncomputable def a5V : Shape := mkS { tmps := .sc (.ptr 0 0 false) :: .sc (.int .u8) :: pv 8 (.sc (.frs b8) :: .sc (.int .i64) :: .sc (.int .i64) :: pv 65 []), mem := [.live [.xs (.int .u64) (some 25), .one (.int .i64), .one (.int .i64)] (.mt 0)] } [.int, .xss, .int, .int, .xs, .int, .int]
abbrev W9 : Type := Int × List Int × Int × Int × Unit
noncomputable def k9 (N : Nat) (β : Type) (x : W8) (kn : W8 → Option β) (ke : W9 → Option β) : Option β :=
 if (x.2.2.2.1 < x.2.2.1) then
  if 0 ≤ x.2.2.2.1 then (
  if x.2.2.2.1 < ((List.length x.2.1 : Nat) : Int) then (
  E1 (i6 N) N (x.1, x.2.1, x.2.2.1, x.2.2.2.1, (List.getD x.2.1 (x.2.2.2.1.toNat) []), ((List.length (List.getD x.2.1 (x.2.2.2.1.toNat) []) : Nat) : Int), (0:Int), x.2.2.2.2.1, x.2.2.2.2.2.1, x.2.2.2.2.2.2.1, ()) fun y3 => (
  kn (y3.1, y3.2.1, y3.2.2.1, (IntKind.i64.wrap (y3.2.2.2.1 + (1:Int))), y3.2.2.2.2.1, y3.2.2.2.2.2.1, y3.2.2.2.2.2.2.1, ()))) else none) else none
 else
  ke (x.1, x.2.2.2.2.1, x.2.2.2.2.2.1, x.2.2.2.2.2.2.1, ())
noncomputable def a5w : Go' W9 := fun y K => K (.exit 0) (fSt { tmps := .sc (.ptr 0 0 false) :: .sc (.int .u8) :: pv 76 [], mem := [.live [.xs (.int .u64) (some 25), .one (.int .i64), .one (.int .i64)] (.mt 0)] } [.int, .xs, .int, .int] y)
noncomputable def a0R (N : Nat) : LT := upd (a0S N) 1 (C6 a5V N (k9 N) a5w)
theorem a5x (N : Nat) : OkAll p_keccak_sponge_takes_E T5 N (a0R N) (E4 B7) :=
 d8 (c := d9 1 B7) (a5z N) (by kernel_rfl) (fun x => by kernel_rfl) (fun β x kn ke => by kernel_rfl)
abbrev A5 : List Kd := [.io [.xs (.int .u64) 25, .int .i64, .int .i64], .int .u8, .sls b8]
abbrev A6 : List Kd := [.cat [.xs (.int .u64) 25, .int .i64, .int .i64]]
noncomputable def N7 (N : Nat) (x : (List Int × Int × Int × Unit) × Int × List (List Int) × Unit) : Option ((List Int × Int × Int × Unit)) :=
 E1 (k9 N) N (x.2.1, x.2.2.1, ((List.length x.2.2.1 : Nat) : Int), (0:Int), x.1.1, x.1.2.1, x.1.2.2.1, ()) fun y4 => (
 (D5 ((y4.2.1, y4.2.2.1, y4.2.2.2.1, ()), y4.1, ())).bind fun r5 => (
 (D5 ((r5.1, r5.2.1, (IntKind.i64.wrap (r5.2.1 - (1:Int))), ()), (128:Int), ())).bind fun r6 => (
 (G4 (r6.1, ())).bind fun r7 => (
 some (r7, r6.2.1, (0:Int), ())))))
theorem a6Y (e0 : b6 Try.prog 80 a1J) (e1 : b6 Try.prog 79 U1) : p_keccak_sponge_takes_E.Ok Try.prog := AE.of_ok (all_cons a2O (all_cons S6 (all_cons w7 (all_cons a1Z (all_cons b02 (all_cons b5q b5)))))) (all_cons ⟨e0, a7k⟩ (all_cons ⟨e1, a3I⟩ b5))
theorem a7J (hE : p_keccak_sponge_takes_E.Ok Try.prog) {g : Ds A5 → Option (Rs A6)} (hg : ∀ x r, g x = some r → ∃ N, N7 N x = some r) : b6 Try.prog 78 ⟨A5, A6, g⟩ :=
 d6 (E := p_keccak_sponge_takes_E) (H := T5) (L := fun N => a0R N) (c := B7) (ks := A5) (rs := A6) (F := N7) hE mix Try.func78 (by kernel_rfl) (fun N => a5x N) (fun _ _ => by kernel_rfl) hg
noncomputable def p_keccak_sponge_gives_E : AE := AE.of [(3, ty3), (5, ty5), (23, ty23), (26, ty26), (121, ty121), (123, ty123)] [(79, U1)]
noncomputable def a2H : Hints := [(1, [0, 1, 6, 7]), (2000000, []), (2000001, [0, 1, 6, 7]), (3000000, [])]
noncomputable def T3 : Code := (Try.f76).body.getD .skip
noncomputable def a5U : Shape := mkS { tmps := .sc (.ptr 0 0 false) :: .sc (.vec 1 none 1) :: pv 4 (.sc (.int .i64) :: .sc (.int .i64) :: pv 51 []), mem := [.live [.xs (.int .u64) (some 25), .one (.int .i64), .one (.int .i64)] (.mt 0), .live [.xs b8 none] (.mt 1)] } [.nat, .int, .int, .xs, .int, .int, .nat, .xs]
abbrev W10 : Type := Nat × Int × Int × List Int × Int × Int × Nat × List Int × Unit
abbrev W11 : Type := List Int × Int × Int × Nat × List Int × Unit
noncomputable def k0 (N : Nat) (β : Type) (x : W10) (kn : W10 → Option β) (ke : W11 → Option β) : Option β :=
 if (x.2.2.1 < x.2.1) then
  if (x.2.2.2.2.2.1 = x.2.2.2.2.1) then
   (G4 (x.2.2.2.1, ())).bind fun r1 => (
   if 0 ≤ (IntKind.i64.wrap (Int.tdiv (0:Int) (8:Int))) then (
   if (IntKind.i64.wrap (Int.tdiv (0:Int) (8:Int))) < 25 then (
   if ((IntKind.i64.wrap (Int.tdiv (0:Int) (8:Int))).toNat) < 25 then (
   if (IntKind.i64.wrap ((8:Int) * (Int.tmod (0:Int) (8:Int)))) < 0 then none else (
   if 0 ≤ x.2.2.1 then (
   if x.2.2.1 < ((x.1 : Nat) : Int) then (
   if (x.2.2.1.toNat) < x.2.2.2.2.2.2.1 then (
   kn (x.1, x.2.1, (IntKind.i64.wrap (x.2.2.1 + (1:Int))), r1, x.2.2.2.2.1, (IntKind.i64.wrap ((0:Int) + (1:Int))), x.2.2.2.2.2.2.1, (List.set x.2.2.2.2.2.2.2.1 (x.2.2.1.toNat) (IntKind.u8.wrap (c2w IntKind.u64 (List.getD r1 ((IntKind.i64.wrap (Int.tdiv (0:Int) (8:Int))).toNat) 0) (IntKind.i64.wrap ((8:Int) * (Int.tmod (0:Int) (8:Int))))))), ())) else none) else none) else none)) else none) else none) else none)
  else
   if 0 ≤ (IntKind.i64.wrap (Int.tdiv x.2.2.2.2.2.1 (8:Int))) then (
   if (IntKind.i64.wrap (Int.tdiv x.2.2.2.2.2.1 (8:Int))) < 25 then (
   if ((IntKind.i64.wrap (Int.tdiv x.2.2.2.2.2.1 (8:Int))).toNat) < 25 then (
   if (IntKind.i64.wrap ((8:Int) * (Int.tmod x.2.2.2.2.2.1 (8:Int)))) < 0 then none else (
   if 0 ≤ x.2.2.1 then (
   if x.2.2.1 < ((x.1 : Nat) : Int) then (
   if (x.2.2.1.toNat) < x.2.2.2.2.2.2.1 then (
   kn (x.1, x.2.1, (IntKind.i64.wrap (x.2.2.1 + (1:Int))), x.2.2.2.1, x.2.2.2.2.1, (IntKind.i64.wrap (x.2.2.2.2.2.1 + (1:Int))), x.2.2.2.2.2.2.1, (List.set x.2.2.2.2.2.2.2.1 (x.2.2.1.toNat) (IntKind.u8.wrap (c2w IntKind.u64 (List.getD x.2.2.2.1 ((IntKind.i64.wrap (Int.tdiv x.2.2.2.2.2.1 (8:Int))).toNat) 0) (IntKind.i64.wrap ((8:Int) * (Int.tmod x.2.2.2.2.2.1 (8:Int))))))), ())) else none) else none) else none)) else none) else none) else none
 else
  ke (x.2.2.2.1, x.2.2.2.2.1, x.2.2.2.2.2.1, x.2.2.2.2.2.2.1, x.2.2.2.2.2.2.2.1, ())
noncomputable def a5u : Go' W11 := fun y K => K (.exit 0) (fSt { tmps := pv 59 [], mem := [.live [.xs (.int .u64) (some 25), .one (.int .i64), .one (.int .i64)] (.mt 0), .live [.xs b8 none] (.mt 1)] } [.xs, .int, .int, .nat, .xs] y)
noncomputable def a0Q (N : Nat) : LT := upd (LT.nil) 1 (C6 a5U N (k0 N) a5u)
theorem a5v (N : Nat) : OkAll p_keccak_sponge_gives_E a2H N (a0Q N) (E4 T3) :=
 d8 (c := d9 1 T3) (OkAll.nil) (by kernel_rfl) (fun x => by kernel_rfl) (fun β x kn ke => by kernel_rfl)
abbrev A3 : List Kd := [.io [.xs (.int .u64) 25, .int .i64, .int .i64], .ios b8]
abbrev A4 : List Kd := [.cat [.xs (.int .u64) 25, .int .i64, .int .i64], .xv b8]
noncomputable def N6 (N : Nat) (x : (List Int × Int × Int × Unit) × List Int × Unit) : Option ((List Int × Int × Int × Unit) × List Int) :=
 E1 (k0 N) N ((List.length x.2.1), (((List.length x.2.1) : Nat) : Int), (0:Int), x.1.1, x.1.2.1, x.1.2.2.1, (List.length x.2.1), x.2.1, ()) fun y2 => (
 some ((y2.1, y2.2.1, y2.2.2.1, ()), y2.2.2.2.2.1))
theorem a6X (e0 : b6 Try.prog 79 U1) : p_keccak_sponge_gives_E.Ok Try.prog := AE.of_ok (all_cons a2O (all_cons S6 (all_cons a1Y (all_cons w7 (all_cons b02 (all_cons b5q b5)))))) (all_cons ⟨e0, a3I⟩ b5)
theorem a7I (hE : p_keccak_sponge_gives_E.Ok Try.prog) {g : Ds A3 → Option (Rs A4)} (hg : ∀ x r, g x = some r → ∃ N, N6 N x = some r) : b6 Try.prog 76 ⟨A3, A4, g⟩ :=
 d6 (E := p_keccak_sponge_gives_E) (H := a2H) (L := fun N => a0Q N) (c := T3) (ks := A3) (rs := A4) (F := N6) hE mix Try.func76 (by kernel_rfl) (fun N => a5v N) (fun _ _ => by kernel_rfl) hg
noncomputable def p_keccak_Xof_none_E : AE := AE.of [(4, ty4), (111, ty111), (125, ty125)] []
noncomputable def b3c : Hints := [(3000000, [2])]
noncomputable def b3d : Code := (Try.f75).body.getD .skip
abbrev H8 : List Kd := [.io [.bool, .xs (.int .u64) 25, .int .i64, .int .i64, .int .i64]]
abbrev H9 : List Kd := [.bool, .cat [.bool, .xs (.int .u64) 25, .int .i64, .int .i64, .int .i64]]
noncomputable def a3h (N : Nat) (x : (Bool × List Int × Int × Int × Int × Unit) × Unit) : Option (Bool × (Bool × List Int × Int × Int × Int × Unit)) :=
 some ((decide (¬ (x.1.1 = true))), ((decide (x.1.1 = true)), x.1.2.1, x.1.2.2.1, x.1.2.2.2.1, x.1.2.2.2.2.1, ()))
theorem b0d : p_keccak_Xof_none_E.Ok Try.prog := AE.of_ok (all_cons c0E (all_cons d2h (all_cons c3j b5))) b5
theorem b1D (hE : p_keccak_Xof_none_E.Ok Try.prog) {g : Ds H8 → Option (Rs H9)} (hg : ∀ x r, g x = some r → ∃ N, a3h N x = some r) : b6 Try.prog 75 ⟨H8, H9, g⟩ :=
 d6 (E := p_keccak_Xof_none_E) (H := b3c) (L := fun N => LT.nil) (c := b3d) (ks := H8) (rs := H9) (F := a3h) hE mix Try.func75 (by kernel_rfl) (fun N => OkAll.nil) (fun _ _ => by kernel_rfl) hg
noncomputable def p_keccak_may_E : AE := AE.of [] []
noncomputable def c0X : Hints := [(2000000, []), (3000000, [2])]
noncomputable def c0Y : Code := (Try.f64).body.getD .skip
abbrev a5q : List Kd := [.int .i64]
abbrev a5r : List Kd := [.int .i64]
noncomputable def a6m (N : Nat) (x : Int × Unit) : Option (Int) :=
 if (x.1 < (0:Int)) then
  some (1:Int)
 else
  if (x.1 > (1048576:Int)) then
   some (3:Int)
  else
   some (0:Int)
theorem b79 : p_keccak_may_E.Ok Try.prog := AE.of_ok b5 b5
theorem b9Y (hE : p_keccak_may_E.Ok Try.prog) {g : Ds [.int .i64] → Option (Rs [.int .i64])} (hg : ∀ x r, g x = some r → ∃ N, a6m N x = some r) : b6 Try.prog 64 ⟨[.int .i64], [.int .i64], g⟩ :=
 d6 (E := p_keccak_may_E) (H := c0X) (L := fun N => LT.nil) (c := c0Y) (ks := a5q) (rs := a5r) (F := a6m) hE mix Try.func64 (by kernel_rfl) (fun N => OkAll.nil) (fun _ _ => by kernel_rfl) hg
noncomputable abbrev a22 : Sig := ⟨[.io [.bool, .xs (.int .u64) 25, .int .i64, .int .i64, .int .i64]], [.bool, .cat [.bool, .xs (.int .u64) 25, .int .i64, .int .i64, .int .i64]], a0E⟩
noncomputable abbrev a3F : Sig := ⟨[.int .i64], [.int .i64], a11⟩
noncomputable abbrev Z4 : Sig := ⟨[.io [.xs (.int .u64) 25, .int .i64, .int .i64], .ios b8], [.cat [.xs (.int .u64) 25, .int .i64, .int .i64], .xv b8], M0⟩
noncomputable def p_keccak_Xof_Read_E : AE := AE.of [(3, ty3), (5, ty5), (26, ty26), (123, ty123), (125, ty125)] [(75, a22), (64, a3F), (76, Z4)]
noncomputable def b3a : Hints := [(3000000, [4, 5])]
noncomputable def b3b : Code := (Try.f66).body.getD .skip
abbrev H6 : List Kd := [.io [.bool, .xs (.int .u64) 25, .int .i64, .int .i64, .int .i64], .int .i64]
abbrev H7 : List Kd := [.sl b8, .int .i64, .cat [.bool, .xs (.int .u64) 25, .int .i64, .int .i64, .int .i64]]
noncomputable def a0M (N : Nat) (x : (Bool × List Int × Int × Int × Int × Unit) × Int × Unit) : Option (List Int × Int × (Bool × List Int × Int × Int × Int × Unit)) :=
 (a0E (((decide (x.1.1 = true)), x.1.2.1, x.1.2.2.1, x.1.2.2.2.1, x.1.2.2.2.2.1, ()), ())).bind fun r1 => (
 if (r1.1 = true) then
  some ([], (2:Int), ((decide (r1.2.1 = true)), r1.2.2.1, r1.2.2.2.1, r1.2.2.2.2.1, r1.2.2.2.2.2.1, ()))
 else
  (a11 (x.2.1, ())).bind fun r2 => (
  if (r2 ≠ (0:Int)) then
   some ([], r2, ((decide (r1.2.1 = true)), r1.2.2.1, r1.2.2.2.1, r1.2.2.2.2.1, r1.2.2.2.2.2.1, ()))
  else
   if 0 ≤ x.2.1 then (
   if x.2.1 = x.2.1 then (
   if x.2.1 * 1 ≤ 281474976710656 then (
   (M0 ((r1.2.2.1, r1.2.2.2.1, r1.2.2.2.2.1, ()), (List.replicate (x.2.1.toNat) 0), ())).bind fun r3 => (
   if (List.length r3.2) = (x.2.1.toNat) then (
   some (r3.2, (0:Int), ((decide (r1.2.1 = true)), r3.1.1, r3.1.2.1, r3.1.2.2.1, (IntKind.i64.wrap (r1.2.2.2.2.2.1 + x.2.1)), ()))) else none)) else none) else none) else none))
theorem b0c (e0 : b6 Try.prog 75 a22) (e1 : b6 Try.prog 64 a3F) (e2 : b6 Try.prog 76 Z4) : p_keccak_Xof_Read_E.Ok Try.prog := AE.of_ok (all_cons a2O (all_cons S6 (all_cons w7 (all_cons b5q (all_cons c3j b5))))) (all_cons ⟨e0, a9f⟩ (all_cons ⟨e1, a7j⟩ (all_cons ⟨e2, a5L⟩ b5)))
theorem b1C (hE : p_keccak_Xof_Read_E.Ok Try.prog) {g : Ds H6 → Option (Rs H7)} (hg : ∀ x r, g x = some r → ∃ N, a0M N x = some r) : b6 Try.prog 66 ⟨H6, H7, g⟩ :=
 d6 (E := p_keccak_Xof_Read_E) (H := b3a) (L := fun N => LT.nil) (c := b3b) (ks := H6) (rs := H7) (F := a0M) hE mix Try.func66 (by kernel_rfl) (fun N => OkAll.nil) (fun _ _ => by kernel_rfl) hg
noncomputable abbrev Z7 : Sig := ⟨[.io [.xs (.int .u64) 25, .int .i64, .int .i64], .int .u8, .sls b8], [.cat [.xs (.int .u64) 25, .int .i64, .int .i64]], M1⟩
noncomputable def p_keccak_started_E : AE := AE.of [(3, ty3), (4, ty4), (121, ty121), (123, ty123), (125, ty125)] [(78, Z7)]
noncomputable def b4V : Hints := [(3000000, [4])]
noncomputable def b4W : Code := (Try.f74).body.getD .skip
abbrev J9 : List Kd := [.int .i64, .sls b8]
abbrev K0 : List Kd := [.op [.bool, .xs (.int .u64) 25, .int .i64, .int .i64, .int .i64]]
noncomputable def a1D (N : Nat) (x : Int × List (List Int) × Unit) : Option ((Bool × List Int × Int × Int × Int × Unit)) :=
 (M1 (((List.replicate 25 0), (List.getD (List.set [0] 0 x.1) 0 0), (List.getD [0] 0 0), ()), (31:Int), x.2.1, ())).bind fun r1 => (
 some (((List.getD (List.set [0] 0 (1:Int)) 0 0) != 0), r1.1, r1.2.1, r1.2.2.1, (List.getD [0] 0 0), ()))
theorem b1N (e0 : b6 Try.prog 78 Z7) : p_keccak_started_E.Ok Try.prog := AE.of_ok (all_cons a2O (all_cons c0E (all_cons b02 (all_cons b5q (all_cons c3j b5))))) (all_cons ⟨e0, a5M⟩ b5)
theorem b3h (hE : p_keccak_started_E.Ok Try.prog) {g : Ds J9 → Option (Rs K0)} (hg : ∀ x r, g x = some r → ∃ N, a1D N x = some r) : b6 Try.prog 74 ⟨J9, K0, g⟩ :=
 d6 (E := p_keccak_started_E) (H := b4V) (L := fun N => LT.nil) (c := b4W) (ks := J9) (rs := K0) (F := a1D) hE mix Try.func74 (by kernel_rfl) (fun N => OkAll.nil) (fun _ _ => by kernel_rfl) hg
noncomputable abbrev U2 : Sig := ⟨[.int .i64, .sls b8], [.op [.bool, .xs (.int .u64) 25, .int .i64, .int .i64, .int .i64]], U7⟩
noncomputable def p_keccak_Shake128_E : AE := AE.of [] [(74, U2)]
noncomputable def b26 : Hints := [(3000000, [2])]
noncomputable def b27 : Code := (Try.f65).body.getD .skip
abbrev H2 : List Kd := [.sls b8]
abbrev H3 : List Kd := [.op [.bool, .xs (.int .u64) 25, .int .i64, .int .i64, .int .i64]]
noncomputable def a0K (N : Nat) (x : List (List Int) × Unit) : Option ((Bool × List Int × Int × Int × Int × Unit)) :=
 (U7 ((168:Int), x.1, ())).bind fun r1 => (
 some ((decide (r1.1 = true)), r1.2.1, r1.2.2.1, r1.2.2.2.1, r1.2.2.2.2.1, ()))
theorem b0a (e0 : b6 Try.prog 74 U2) : p_keccak_Shake128_E.Ok Try.prog := AE.of_ok b5 (all_cons ⟨e0, a3J⟩ b5)
theorem b1A (hE : p_keccak_Shake128_E.Ok Try.prog) {g : Ds H2 → Option (Rs H3)} (hg : ∀ x r, g x = some r → ∃ N, a0K N x = some r) : b6 Try.prog 65 ⟨H2, H3, g⟩ :=
 d6 (E := p_keccak_Shake128_E) (H := b26) (L := fun N => LT.nil) (c := b27) (ks := H2) (rs := H3) (F := a0K) hE mix Try.func65 (by kernel_rfl) (fun N => OkAll.nil) (fun _ _ => by kernel_rfl) hg
noncomputable def p_keccak_Shake256_E : AE := AE.of [] [(74, U2)]
noncomputable def b28 : Hints := [(3000000, [2])]
noncomputable def b29 : Code := (Try.f67).body.getD .skip
abbrev H4 : List Kd := [.sls b8]
abbrev H5 : List Kd := [.op [.bool, .xs (.int .u64) 25, .int .i64, .int .i64, .int .i64]]
noncomputable def a0L (N : Nat) (x : List (List Int) × Unit) : Option ((Bool × List Int × Int × Int × Int × Unit)) :=
 (U7 ((136:Int), x.1, ())).bind fun r1 => (
 some ((decide (r1.1 = true)), r1.2.1, r1.2.2.1, r1.2.2.2.1, r1.2.2.2.2.1, ()))
theorem b0b (e0 : b6 Try.prog 74 U2) : p_keccak_Shake256_E.Ok Try.prog := AE.of_ok b5 (all_cons ⟨e0, a3J⟩ b5)
theorem b1B (hE : p_keccak_Shake256_E.Ok Try.prog) {g : Ds H4 → Option (Rs H5)} (hg : ∀ x r, g x = some r → ∃ N, a0L N x = some r) : b6 Try.prog 67 ⟨H4, H5, g⟩ :=
 d6 (E := p_keccak_Shake256_E) (H := b28) (L := fun N => LT.nil) (c := b29) (ks := H4) (rs := H5) (F := a0L) hE mix Try.func67 (by kernel_rfl) (fun N => OkAll.nil) (fun _ _ => by kernel_rfl) hg
noncomputable abbrev P1 : Sig := ⟨[.sls b8], [.op [.bool, .xs (.int .u64) 25, .int .i64, .int .i64, .int .i64]], D4⟩
noncomputable abbrev P2 : Sig := ⟨[.io [.bool, .xs (.int .u64) 25, .int .i64, .int .i64, .int .i64], .int .i64], [.sl b8, .int .i64, .cat [.bool, .xs (.int .u64) 25, .int .i64, .int .i64, .int .i64]], l9⟩
noncomputable abbrev a21 : Sig := ⟨[.sls b8], [.op [.bool, .xs (.int .u64) 25, .int .i64, .int .i64, .int .i64]], P4⟩
noncomputable def p_keccak_Shake_E : AE := AE.of [] [(64, a3F), (65, P1), (66, P2), (67, a21)]
noncomputable def b77 : Hints := [(3000000, [6, 7])]
noncomputable def b78 : Code := (Try.f44).body.getD .skip
abbrev Q9 : List Kd := [.int .i64, .int .i64, .sls b8]
abbrev R0 : List Kd := [.sl b8, .int .i64]
noncomputable def a3B (N : Nat) (x : Int × Int × List (List Int) × Unit) : Option (List Int × Int) :=
 if (x.1 ≠ (128:Int)) then
  if (x.1 ≠ (256:Int)) then
   some ([], (1:Int))
  else
   (a11 (x.2.1, ())).bind fun r1 => (
   if (r1 ≠ (0:Int)) then
    some ([], r1)
   else
    if (x.1 = (128:Int)) then
     (D4 (x.2.2.1, ())).bind fun r2 => (
     (l9 (((decide (r2.1 = true)), r2.2.1, r2.2.2.1, r2.2.2.2.1, r2.2.2.2.2.1, ()), x.2.1, ())).bind fun r3 => (
     some (r3.1, r3.2.1)))
    else
     (P4 (x.2.2.1, ())).bind fun r4 => (
     (l9 (((decide (r4.1 = true)), r4.2.1, r4.2.2.1, r4.2.2.2.1, r4.2.2.2.2.1, ()), x.2.1, ())).bind fun r5 => (
     some (r5.1, r5.2.1))))
 else
  (a11 (x.2.1, ())).bind fun r6 => (
  if (r6 ≠ (0:Int)) then
   some ([], r6)
  else
   if (x.1 = (128:Int)) then
    (D4 (x.2.2.1, ())).bind fun r7 => (
    (l9 (((decide (r7.1 = true)), r7.2.1, r7.2.2.1, r7.2.2.2.1, r7.2.2.2.2.1, ()), x.2.1, ())).bind fun r8 => (
    some (r8.1, r8.2.1)))
   else
    (P4 (x.2.2.1, ())).bind fun r9 => (
    (l9 (((decide (r9.1 = true)), r9.2.1, r9.2.2.1, r9.2.2.2.1, r9.2.2.2.2.1, ()), x.2.1, ())).bind fun r10 => (
    some (r10.1, r10.2.1))))
theorem b4R (e0 : b6 Try.prog 64 a3F) (e1 : b6 Try.prog 65 P1) (e2 : b6 Try.prog 66 P2) (e3 : b6 Try.prog 67 a21) : p_keccak_Shake_E.Ok Try.prog := AE.of_ok b5 (all_cons ⟨e0, a7j⟩ (all_cons ⟨e1, a2V⟩ (all_cons ⟨e2, a2W⟩ (all_cons ⟨e3, a9e⟩ b5))))
theorem b6E (hE : p_keccak_Shake_E.Ok Try.prog) {g : Ds Q9 → Option (Rs R0)} (hg : ∀ x r, g x = some r → ∃ N, a3B N x = some r) : b6 Try.prog 44 ⟨Q9, R0, g⟩ :=
 d6 (E := p_keccak_Shake_E) (H := b77) (L := fun N => LT.nil) (c := b78) (ks := Q9) (rs := R0) (F := a3B) hE mix Try.func44 (by kernel_rfl) (fun N => OkAll.nil) (fun _ _ => by kernel_rfl) hg
end Go.Ax.TryP
set_option linter.unusedVariables false
namespace Go.Ax.TryP
open Go.Proofs
theorem c4F : ∀ x r, a11 x = some r → ∃ N, a6m N x = some r := by
 refine c8 (ks := a5q) (rs := a5r) fun x hw hq => ⟨0, ?_⟩
 obtain ⟨(n : Int), u⟩ := x
 unfold a6m d4P
 dsimp only
 split
 ·rfl
 ·split
  ·rfl
  ·rfl
theorem b6R : ∀ x r, a0E x = some r → ∃ N, a3h N x = some r := by
 refine c8 (ks := H8) (rs := H9) fun x hw hq => ⟨0, ?_⟩
 obtain ⟨⟨(b : Bool), a, r, p, c, u⟩, v⟩ := x
 cases b <;> rfl
theorem d5t {p : Nat} : Int.tdiv (p : Int) 8 = ((p / 8 : Nat) : Int) := by rw [a6u (by omega)]; omega
theorem d5u {p : Nat} : Int.tmod (p : Int) 8 = ((p % 8 : Nat) : Int) := by rw [b01 (by omega)]; omega
theorem b3p : ∀ x r, D5 x = some r → ∃ N, T4 N x = some r := by
 refine c8 (ks := D2) (rs := D3) fun x hw hq => ⟨0, ?_⟩
 obtain ⟨⟨(a : List Int), (r : Int), (p : Int), u⟩, (z : Int), v⟩ := x
 have hq : 0 ≤ p ∧ p < 200 := hq
 have hz : 0 ≤ z ∧ z ≤ 255 := a0F.1 hw.2.1
 obtain ⟨m, rfl⟩ : ∃ m : Nat, p = m := ⟨p.toNat, by omega⟩
 unfold T4
 dsimp only
 rw [d5t, d5u, b7 (by omega) (by omega), b7 (by omega) (by omega), c3o (by omega) (by omega), Int.toNat_natCast, if_pos (by omega), if_pos (by omega), if_pos (by omega), if_neg (by omega), if_pos (by omega), if_pos (by omega), if_pos (by omega)]
 rfl
theorem d0W {a : List Int} {r p : Int} : c5c [.xs (.int .u64) 25, .int .i64, .int .i64] (a, r, p, ()) ↔ u64s 25 a ∧ (-9223372036854775808 ≤ r ∧ r ≤ 9223372036854775807) ∧ (-9223372036854775808 ≤ p ∧ p ≤ 9223372036854775807) := by
 have h1 : FK.wf (.xs (.int .u64) 25) a ↔ u64s 25 a := by simp [FK.wf, u64s, rows, b30]
 have h2 : FK.wf (.int .i64) r ↔ _ := j7
 have h3 : FK.wf (.int .i64) p ↔ _ := j7
 simp only [c5c, h1, h2, h3, and_true]
theorem c5W {a : List Int} (h : u64s 25 a) : ∀ n : Nat, u64s 25 (b0r n a)
 | 0 => h
 | n + 1 => c5V (c5W h n)
theorem d0H {rate : Nat} (hr : 0 < rate) (a : List Int) {p : Nat} (h : (T7 rate a p).2 = rate) : p / rate = (p - 1) / rate + 1 ∧ p % rate = 0 := by
 unfold T7 at h
 dsimp only at h
 have e := Nat.div_add_mod (p - 1) rate
 have e1 := Nat.mod_lt (p - 1) hr
 generalize hq : (p - 1) / rate = q at *
 rw [Nat.mul_comm] at e
 have hp : p = (q + 1) * rate := by rw [Nat.add_mul, Nat.one_mul]; omega
 rw [hp]
 exact ⟨Nat.mul_div_cancel _ hr, Nat.mul_mod_left _ _⟩
theorem d0J {rate : Nat} (hr : 0 < rate) (a : List Int) {p : Nat} (h : (T7 rate a p).2 ≠ rate) : p / rate = (p - 1) / rate ∧ p % rate = (T7 rate a p).2 ∧ (T7 rate a p).2 < rate := by
 unfold T7 at *
 dsimp only at *
 have e := Nat.div_add_mod (p - 1) rate
 have e1 := Nat.mod_lt (p - 1) hr
 generalize hq : (p - 1) / rate = q at *
 rw [Nat.mul_comm] at e
 have h1 : q * rate ≤ p := by omega
 have h2 : p - q * rate < rate := by omega
 have hp : p = (p - q * rate) + rate * q := by rw [Nat.mul_comm rate]; omega
 refine ⟨?_, ?_, h2⟩
 ·rw [hp, Nat.add_mul_div_left _ _ hr, Nat.div_eq_of_lt h2]; omega
 ·conv => lhs; rw [hp, Nat.add_mul_mod_self_left]
  exact Nat.mod_eq_of_lt h2
theorem d0I {rate : Nat} (hr : 0 < rate) (a : List Int) (p : Nat) : T7 rate a (p + 1) = (b0r (p / rate) a, p % rate + 1) := by
 unfold T7
 have e := Nat.div_add_mod p rate
 rw [Nat.mul_comm] at e
 rw [Nat.add_sub_cancel]
 congr 1
 omega
theorem b61 {rate : Nat} (a : List Int) {p : Nat} (hr : 0 < rate) (hp : p ≤ rate) : T7 rate a p = (a, p) := by
 unfold T7
 rw [Nat.div_eq_of_lt (by omega)]
 simp [b0r]
theorem c8j {rate n : Nat} {a out : List Int} {p i : Nat} (ha : u64s 25 a) (hr : 8 ≤ rate ∧ rate ≤ 200) (hn : out.length = n) (hb : n ≤ maxLen) (hi : i < n) {β : Type} (N : Nat) (kn : _ → Option β) (k : _ → Option β) :
  k0 N β (n, (n : Int), (i : Int), (T7 rate a (p + i)).1, (rate : Int), ((T7 rate a (p + i)).2 : Int), n, part (fun k => b3y rate a (p + k)) i out, ()) kn k
  = kn (n, (n : Int), ((i + 1 : Nat) : Int), (T7 rate a (p + (i + 1))).1, (rate : Int), ((T7 rate a (p + (i + 1))).2 : Int), n, part (fun k => b3y rate a (p + k)) (i + 1) out, ()) := by
 have hm : maxLen ≤ 9223372036854775807 := by decide
 have h0 : 0 < rate := by omega
 have hu : u64s 25 (b0r ((p + i - 1) / rate) a) := c5W ha _
 have hnext := d0I h0 a (p + i)
 have hset : (part (fun k => b3y rate a (p + k)) i out).set i (b3y rate a (p + i)) = part (fun k => b3y rate a (p + k)) (i + 1) out := b8I (h := fun k => b3y rate a (p + k)) (by omega)
 unfold k0
 dsimp only
 rw [if_pos (by omega)]
 by_cases h : (T7 rate a (p + i)).2 = rate
 ·obtain ⟨h1, h2⟩ := d0H h0 a h
  rw [if_pos (by omega)]
  have e : G4 ((T7 rate a (p + i)).1, ()) = some (b0r ((p + i) / rate) a) := by
   rw [h1]; exact c5l hu
  rw [e, Option.bind_some]
  have c1 : IntKind.i64.wrap (Int.tdiv 0 8) = 0 := by decide
  have c2 : IntKind.i64.wrap (8 * Int.tmod 0 8) = 0 := by decide
  rw [c1, c2, if_pos (by omega), if_pos (by omega), if_pos (by decide), if_neg (by omega), if_pos (by omega), if_pos (by omega), if_pos (by omega), Int.toNat_natCast, b7 (by omega) (by omega)]
  rw [show p + (i + 1) = p + i + 1 by omega, hnext, h2]
  have c3 : IntKind.u8.wrap (c2w IntKind.u64 (List.getD (b0r ((p + i) / rate) a) (Int.toNat 0) 0) 0) = b3y rate a (p + i) := by
   unfold b3y; rw [h2]; rfl
  rw [c3, hset]
  rfl
 ·obtain ⟨h1, h2, h3⟩ := d0J h0 a h
  rw [if_neg (by omega)]
  have e : (T7 rate a (p + i)).1 = b0r ((p + i) / rate) a := by rw [h1]; rfl
  rw [e, ← h2, d5t, d5u, b7 (by omega) (by omega), b7 (x := 8 * (((p + i) % rate % 8 : Nat) : Int)) (by omega) (by omega), Int.toNat_natCast, if_pos (by omega), if_pos (by omega), if_pos (by omega), if_neg (by omega), if_pos (by omega), if_pos (by omega), if_pos (by omega), Int.toNat_natCast, b7 (by omega) (by omega), b7 (by omega) (by omega)]
  rw [show p + (i + 1) = p + i + 1 by omega, hnext]
  have c3 : IntKind.u8.wrap (c2w IntKind.u64 (List.getD (b0r ((p + i) / rate) a) ((p + i) % rate / 8) 0) (8 * (((p + i) % rate % 8 : Nat) : Int))) = b3y rate a (p + i) := rfl
  rw [c3, hset]
  rfl
theorem b0u : ∀ x r, M0 x = some r → ∃ N, N6 N x = some r := by
 refine c8 (ks := A3) (rs := A4) fun x hw hq => ?_
 obtain ⟨⟨(a : List Int), (r : Int), (p : Int), u⟩, (out : List Int), v⟩ := x
 obtain ⟨ha, _, _⟩ := d0W.1 hw.1
 have hl : out.length ≤ maxLen := hw.2.1.1
 obtain ⟨hr, hp0, hp1⟩ : (8 ≤ r ∧ r ≤ 200) ∧ 0 ≤ p ∧ p ≤ r := hq
 obtain ⟨rate, rfl⟩ : ∃ m : Nat, r = m := ⟨r.toNat, by omega⟩
 obtain ⟨q, rfl⟩ : ∃ m : Nat, p = m := ⟨p.toNat, by omega⟩
 generalize hn : out.length = n at *
 refine ⟨n + 1, ?_⟩
 unfold N6
 dsimp only
 rw [hn]
 refine (j6 (F := k0 (n + 1)) (s := fun i => (n, (n : Int), (i : Int), (T7 rate a (q + i)).1, (rate : Int), ((T7 rate a (q + i)).2 : Int), n, part (fun k => b3y rate a (q + k)) i out, ()))
  (y := ((T7 rate a (q + n)).1, (rate : Int), ((T7 rate a (q + n)).2 : Int), n, (List.range n).map (fun k => b3y rate a (q + k)), ())) n ?_ ?_ ?_ (n + 1) (by omega)).trans ?_
 ·rw [Nat.add_zero, b61 a (by omega) (by omega), b47]
  rfl
 ·exact fun i hi kn => c8j ha (by omega) hn hl hi _ kn _
 ·intro kn
  unfold k0
  dsimp only
  rw [if_neg (by omega), N9 hn]
 ·dsimp only
  rw [Int.toNat_natCast, Int.toNat_natCast]
theorem b7g {a : List Int} (h : u64s 25 a) (p : Nat) (x : Int) : u64s 25 (d2L a p x) := rows.set h (d0Y _ _)
def d1U (rate : Nat) (s : List Int × Nat) : Prop := u64s 25 s.1 ∧ s.2 < rate
theorem d2b {rate : Nat} {s : List Int × Nat} (h : d1U rate s) (x : Int) : d1U rate (c8Z rate s x) := by
 have h1 := h.2
 unfold c8Z
 split
 ·exact ⟨c5V (b7g h.1 _ _), by show 0 < rate; omega⟩
 ·exact ⟨b7g h.1 _ _, by show s.2 + 1 < rate; omega⟩
theorem b9f {rate : Nat} : ∀ {s : List Int × Nat} (l : List Int), d1U rate s → d1U rate (b0N rate s l)
 | s, [], h => h
 | s, x :: l, h => b9f l (d2b h x)
theorem b9e (rate : Nat) (s : List Int × Nat) (l m : List Int) : b0N rate s (l ++ m) = b0N rate (b0N rate s l) m := by simp [b0N, List.foldl_append]
theorem d1C (rate : Nat) (s : List Int × Nat) (x : Int) : b0N rate s [x] = c8Z rate s x := rfl
theorem c9n {a : List Int} {r : Int} {p : Nat} {x : Int} (h : u64s 25 a) (hr : b31 r) (hp : p < 200) (hx : 0 ≤ x ∧ x ≤ 255) : D5 ((a, r, (p : Int), ()), x, ()) = some (d2L a p x, r, (p : Int), ()) := by
 have hr' : 8 ≤ r ∧ r ≤ 200 := hr
 have := c7 (ks := D2) (rs := D3) (x := ((a, r, (p : Int), ()), x, ())) (Q := fun x => 0 ≤ x.1.2.2.1 ∧ x.1.2.2.1 < 200) (f := fun x => (d2L x.1.1 x.1.2.2.1.toNat x.2.1, x.1.2.1, x.1.2.2.1, ()))
  ⟨d0W.2 ⟨h, by omega, by omega⟩, a0F.2 hx, trivial⟩ ⟨by show (0 : Int) ≤ p; omega, by show (p : Int) < 200; omega⟩
 exact this
theorem d0L {rate : Nat} {e np i : Int} {parts : List (List Int)} {l : List Int} {s : List Int × Nat} {j : Nat} (hs : d1U rate s) (hr : 8 ≤ rate ∧ rate ≤ 200) (hl : ∀ z ∈ l, 0 ≤ z ∧ z ≤ 255) (hm : l.length ≤ maxLen) (hj : j < l.length)
  {β : Type} (N : Nat) (kn : _ → Option β) (k : _ → Option β) :
  i6 N β (e, parts, np, i, l, (l.length : Int), (j : Int), (b0N rate s (l.take j)).1, (rate : Int), ((b0N rate s (l.take j)).2 : Int), ()) kn k
  = kn (e, parts, np, i, l, (l.length : Int), ((j + 1 : Nat) : Int), (b0N rate s (l.take (j + 1))).1, (rate : Int), ((b0N rate s (l.take (j + 1))).2 : Int), ()) := by
 have hm' : maxLen ≤ 9223372036854775807 := by decide
 have hS := b9f (l.take j) hs
 have e1 : b0N rate s (l.take (j + 1)) = c8Z rate (b0N rate s (l.take j)) (l.getD j 0) := by
  rw [List.take_succ_eq_append_getElem hj, b9e, d1C, List.getD_eq_getElem?_getD, List.getElem?_eq_getElem hj]; rfl
 have hz := hl _ (a57 hj)
 generalize b0N rate s (l.take j) = S at *
 have h2 := hS.2
 unfold i6
 dsimp only
 rw [if_pos (by omega), if_pos (by omega), if_pos (by omega), Int.toNat_natCast, c9n hS.1 ⟨by omega, by omega⟩ (by omega) hz, Option.bind_some]
 dsimp only
 rw [e1, b7 (x := (S.2 : Int) + 1) (by omega) (by omega), b7 (by omega) (by omega)]
 unfold c8Z
 by_cases h : S.2 + 1 = rate
 ·rw [if_pos (by omega), c5l (b7g hS.1 _ _), Option.bind_some, if_pos h]
  rfl
 ·rw [if_neg (by omega), if_neg h]
  rfl
theorem d0M {rate : Nat} {e np i : Int} {parts : List (List Int)} {l : List Int} {s : List Int × Nat} (hs : d1U rate s) (hr : 8 ≤ rate ∧ rate ≤ 200) (hl : ∀ z ∈ l, 0 ≤ z ∧ z ≤ 255) (hm : l.length ≤ maxLen)
  {β : Type} {N : Nat} (hN : l.length < N) {k : _ → Option β} :
  E1 (i6 N) N (e, parts, np, i, l, (l.length : Int), (0 : Int), s.1, (rate : Int), (s.2 : Int), ()) k = k (e, parts, np, i, (b0N rate s l).1, (rate : Int), ((b0N rate s l).2 : Int), ()) := by
 refine j6 (F := i6 N) (s := fun j => (e, parts, np, i, l, (l.length : Int), (j : Int), (b0N rate s (l.take j)).1, (rate : Int), ((b0N rate s (l.take j)).2 : Int), ()))
  (y := (e, parts, np, i, (b0N rate s l).1, (rate : Int), ((b0N rate s l).2 : Int), ())) l.length ?_ ?_ ?_ N hN
 ·rfl
 ·exact fun j hj kn => d0L hs hr hl hm hj N kn k
 ·intro kn
  unfold i6
  dsimp only
  rw [if_neg (by omega), List.take_length]
def a0y (l : List (List Int)) : Prop := l.length ≤ maxLen ∧ ∀ zs ∈ l, zs.length ≤ maxLen ∧ ∀ z ∈ zs, 0 ≤ z ∧ z ≤ 255
theorem a1F {l : List (List Int)} : Kd.wf (.sls (.int .u8)) l ↔ a0y l := by simp [Kd.wf, a0y, a0F]
theorem c98 {zs : List Int} : ∀ {l : List (List Int)}, zs ∈ l → zs.length ≤ l.flatten.length
 | x :: l, h => by
  rcases List.mem_cons.1 h with rfl | h
  ·simp
  ·have := c98 h; simp only [List.flatten_cons, List.length_append]; omega
theorem c8B {rate : Nat} {e : Int} {parts : List (List Int)} {s : List Int × Nat} {i : Nat} (hs : d1U rate s) (hr : 8 ≤ rate ∧ rate ≤ 200) (hp : a0y parts) (hi : i < parts.length)
  {β : Type} {N : Nat} (hN : parts.flatten.length < N) (kn : _ → Option β) (k : _ → Option β) :
  k9 N β (e, parts, (parts.length : Int), (i : Int), (b0N rate s (parts.take i).flatten).1, (rate : Int), ((b0N rate s (parts.take i).flatten).2 : Int), ()) kn k
  = kn (e, parts, (parts.length : Int), ((i + 1 : Nat) : Int), (b0N rate s (parts.take (i + 1)).flatten).1, (rate : Int), ((b0N rate s (parts.take (i + 1)).flatten).2 : Int), ()) := by
 have hm' : maxLen ≤ 9223372036854775807 := by decide
 have hl := hp.1
 have hS := b9f (parts.take i).flatten hs
 have hmem : parts.getD i [] ∈ parts := by
  rw [List.getD_eq_getElem?_getD, List.getElem?_eq_getElem hi]; simp
 have e1 : b0N rate s (parts.take (i + 1)).flatten = b0N rate (b0N rate s (parts.take i).flatten) (parts.getD i []) := by
  rw [List.take_succ_eq_append_getElem hi, List.flatten_append, b9e, List.getD_eq_getElem?_getD, List.getElem?_eq_getElem hi]
  simp
 have hlen := c98 hmem
 obtain ⟨q1, q2⟩ := hp.2 _ hmem
 rw [e1]
 generalize b0N rate s (parts.take i).flatten = S at *
 unfold k9
 dsimp only
 rw [if_pos (by omega), if_pos (by omega), if_pos (by omega), Int.toNat_natCast]
 rw [d0M hS hr q2 q1 (by omega)]
 dsimp only
 rw [b7 (by omega) (by omega)]
 rfl
theorem b0v : ∀ x r, M1 x = some r → ∃ N, N7 N x = some r := by
 refine c8 (ks := A5) (rs := A6) fun x hw hq => ?_
 obtain ⟨⟨(a : List Int), (r : Int), (p : Int), u⟩, (e : Int), (parts : List (List Int)), v⟩ := x
 obtain ⟨ha, _, _⟩ := d0W.1 hw.1
 have he : 0 ≤ e ∧ e ≤ 255 := a0F.1 hw.2.1
 have hp : a0y parts := a1F.1 hw.2.2.1
 obtain ⟨hr, hp0, hp1⟩ : (8 ≤ r ∧ r ≤ 200) ∧ 0 ≤ p ∧ p < r := hq
 obtain ⟨rate, rfl⟩ : ∃ m : Nat, r = m := ⟨r.toNat, by omega⟩
 obtain ⟨q, rfl⟩ : ∃ m : Nat, p = m := ⟨p.toNat, by omega⟩
 have hs : d1U rate (a, q) := ⟨ha, by show q < rate; omega⟩
 have hr' : 8 ≤ rate ∧ rate ≤ 200 := by omega
 refine ⟨parts.length + parts.flatten.length + 1, ?_⟩
 unfold N7
 dsimp only
 refine (j6 (F := k9 (parts.length + parts.flatten.length + 1)) (s := fun i => (e, parts, (parts.length : Int), (i : Int), (b0N rate (a, q) (parts.take i).flatten).1, (rate : Int), ((b0N rate (a, q) (parts.take i).flatten).2 : Int), ()))
  (y := (e, (b0N rate (a, q) parts.flatten).1, (rate : Int), ((b0N rate (a, q) parts.flatten).2 : Int), ())) parts.length ?_ ?_ ?_ _ (by omega)).trans ?_
 ·rfl
 ·exact fun i hi kn => c8B hs hr' hp hi (by omega) kn _
 ·intro kn
  unfold k9
  dsimp only
  rw [if_neg (by omega), List.take_length]
 ·have hS := b9f parts.flatten hs
  dsimp only
  rw [Int.toNat_natCast, Int.toNat_natCast]
  unfold Z8
  generalize b0N rate (a, q) parts.flatten = S at *
  have h2 := hS.2
  rw [c9n hS.1 ⟨by omega, by omega⟩ (by omega) he, Option.bind_some]
  dsimp only
  rw [b7 (by omega) (by omega), show (rate : Int) - 1 = ((rate - 1 : Nat) : Int) by omega, c9n (b7g hS.1 _ _) ⟨by omega, by omega⟩ (by omega) (by omega), Option.bind_some]
  dsimp only
  rw [c5l (b7g (b7g hS.1 _ _) _ _), Option.bind_some]
theorem d5C : u64s 25 z25 := rows.zero (by omega) 25
theorem d07 {rate : Nat} {s : List Int × Nat} (hs : d1U rate s) (e : Int) (l : List Int) : u64s 25 (Z8 rate e s l) := c5V (b7g (b7g (b9f l hs).1 _ _) _ _)
theorem d1k {a : List Int} {rate p : Nat} {e : Int} {parts : List (List Int)} (ha : u64s 25 a) (hr : 8 ≤ rate ∧ rate ≤ 200) (hp : p < rate) (he : 0 ≤ e ∧ e ≤ 255) (hl : a0y parts) :
  M1 ((a, (rate : Int), (p : Int), ()), e, parts, ()) = some (Z8 rate e (a, p) parts.flatten, (rate : Int), 0, ()) := by
 have := c7 (ks := A5) (rs := A6) (x := ((a, (rate : Int), (p : Int), ()), e, parts, ())) (Q := fun x => b31 x.1.2.1 ∧ 0 ≤ x.1.2.2.1 ∧ x.1.2.2.1 < x.1.2.1) (f := fun x => (Z8 x.1.2.1.toNat x.2.1 (x.1.1, x.1.2.2.1.toNat) x.2.2.1.flatten, x.1.2.1, 0, ()))
  ⟨d0W.2 ⟨ha, by omega, by omega⟩, a0F.2 he, a1F.2 hl, trivial⟩ ⟨⟨by show (8 : Int) ≤ rate; omega, by show (rate : Int) ≤ 200; omega⟩, by show (0 : Int) ≤ p; omega, by show (p : Int) < rate; omega⟩
 exact this
theorem b8p : ∀ x r, U7 x = some r → ∃ N, a1D N x = some r := by
 refine c8 (ks := J9) (rs := K0) fun x hw hq => ⟨0, ?_⟩
 obtain ⟨(r : Int), (parts : List (List Int)), u⟩ := x
 have hp : a0y parts := a1F.1 hw.2.1
 have hr : 8 ≤ r ∧ r ≤ 200 := hq
 obtain ⟨rate, rfl⟩ : ∃ m : Nat, r = m := ⟨r.toNat, by omega⟩
 have e := d1k (e := 31) (p := 0) d5C (by omega) (show 0 < rate by omega) (by omega) hp
 unfold a1D
 refine (congrArg (fun o => Option.bind o _) e).trans ?_
 rw [Option.bind_some]
 rfl
theorem c1t {rate : Nat} {parts : List (List Int)} (hr : 8 ≤ rate ∧ rate ≤ 200) (hl : a0y parts) : U7 ((rate : Int), parts, ()) = some (true, Z8 rate 31 (z25, 0) parts.flatten, (rate : Int), 0, 0, ()) := by
 have := c7 (ks := J9) (rs := K0) (x := ((rate : Int), parts, ())) (Q := fun x => b31 x.1) (f := fun x => (true, Z8 x.1.toNat 31 (z25, 0) x.2.1.flatten, x.1, 0, 0, ()))
  ⟨j7.2 (by omega), a1F.2 hl, trivial⟩ ⟨by show (8 : Int) ≤ rate; omega, by show (rate : Int) ≤ 200; omega⟩
 exact this
theorem b6O : ∀ x r, D4 x = some r → ∃ N, a0K N x = some r := by
 refine c8 (ks := H2) (rs := H3) fun x hw hq => ⟨0, ?_⟩
 obtain ⟨(parts : List (List Int)), u⟩ := x
 have hp : a0y parts := a1F.1 hw.1
 unfold a0K
 refine (congrArg (fun o => Option.bind o _) (c1t (rate := 168) (by omega) hp)).trans ?_
 rw [Option.bind_some]
 rfl
theorem b8P {parts : List (List Int)} (hl : a0y parts) : D4 (parts, ()) = some (true, Z8 168 31 (z25, 0) parts.flatten, 168, 0, 0, ()) :=
 c7 (ks := H2) (rs := H3) (x := (parts, ())) ⟨a1F.2 hl, trivial⟩ trivial
theorem d5B {b : Bool} {a : List Int} {r p c : Int} : c5c [.bool, .xs (.int .u64) 25, .int .i64, .int .i64, .int .i64] (b, a, r, p, c, ()) ↔ u64s 25 a ∧ (-9223372036854775808 ≤ r ∧ r ≤ 9223372036854775807) ∧ (-9223372036854775808 ≤ p ∧ p ≤ 9223372036854775807) ∧ (-9223372036854775808 ≤ c ∧ c ≤ 9223372036854775807) := by
 have h1 : FK.wf (.xs (.int .u64) 25) a ↔ u64s 25 a := by simp [FK.wf, u64s, rows, b30]
 have h2 : FK.wf (.int .i64) r ↔ _ := j7
 have h3 : FK.wf (.int .i64) p ↔ _ := j7
 have h4 : FK.wf (.int .i64) c ↔ _ := j7
 have h5 : FK.wf .bool b ↔ True := by simp [FK.wf]
 simp only [c5c, h1, h2, h3, h4, h5, and_true, true_and]
theorem d1g {a out : List Int} {rate p : Nat} (ha : u64s 25 a) (hr : 8 ≤ rate ∧ rate ≤ 200) (hp : p ≤ rate) (ho : out.length ≤ maxLen ∧ ∀ z ∈ out, 0 ≤ z ∧ z ≤ 255) :
  M0 ((a, (rate : Int), (p : Int), ()), out, ()) = some (((T7 rate a (p + out.length)).1, (rate : Int), ((T7 rate a (p + out.length)).2 : Int), ()), (List.range out.length).map fun k => b3y rate a (p + k)) := by
 have := c7 (ks := A3) (rs := A4) (x := ((a, (rate : Int), (p : Int), ()), out, ())) (Q := fun x => b31 x.1.2.1 ∧ 0 ≤ x.1.2.2.1 ∧ x.1.2.2.1 ≤ x.1.2.1)
  (f := fun x => (((T7 x.1.2.1.toNat x.1.1 (x.1.2.2.1.toNat + x.2.1.length)).1, x.1.2.1, ((T7 x.1.2.1.toNat x.1.1 (x.1.2.2.1.toNat + x.2.1.length)).2 : Int), ()), (List.range x.2.1.length).map fun k => b3y x.1.2.1.toNat x.1.1 (x.1.2.2.1.toNat + k)))
  ⟨d0W.2 ⟨ha, by omega, by omega⟩, ⟨ho.1, fun z hz => a0F.2 (ho.2 z hz)⟩, trivial⟩ ⟨⟨by show (8 : Int) ≤ rate; omega, by show (rate : Int) ≤ 200; omega⟩, by show (0 : Int) ≤ p; omega, by show (p : Int) ≤ rate; omega⟩
 exact this
theorem d3f {a : List Int} {r p c : Int} (h : c5c [.bool, .xs (.int .u64) 25, .int .i64, .int .i64, .int .i64] (true, a, r, p, c, ())) : a0E ((true, a, r, p, c, ()), ()) = some (false, (true, a, r, p, c, ())) :=
 c7 (ks := H8) (rs := H9) (x := ((true, a, r, p, c, ()), ())) ⟨h, trivial⟩ trivial
theorem c9m {n : Int} (h : 0 ≤ n ∧ n ≤ 1048576) : a11 (n, ()) = some 0 := by
 have := c7 (ks := a5q) (rs := a5r) (Q := fun _ => True) (f := fun x => d4P x.1) (x := (n, ())) ⟨j7.2 (by omega), trivial⟩ trivial
 refine this.trans ?_
 show some (d4P n) = _
 unfold d4P
 rw [if_neg (by omega), if_neg (by omega)]
theorem b6Q : ∀ x r, l9 x = some r → ∃ N, a0M N x = some r := by
 refine c8 (ks := H6) (rs := H7) fun x hw hq => ⟨0, ?_⟩
 obtain ⟨⟨(b : Bool), (a : List Int), (r : Int), (p : Int), (c : Int), u⟩, (n : Int), v⟩ := x
 obtain ⟨hb, hn0, hn1, hr, hp0, hp1⟩ : b = true ∧ 0 ≤ n ∧ n ≤ 1048576 ∧ (8 ≤ r ∧ r ≤ 200) ∧ 0 ≤ p ∧ p ≤ r := hq
 subst hb
 have hx := d5B.1 hw.1
 obtain ⟨rate, rfl⟩ : ∃ m : Nat, r = m := ⟨r.toNat, by omega⟩
 obtain ⟨q, rfl⟩ : ∃ m : Nat, p = m := ⟨p.toNat, by omega⟩
 obtain ⟨m, rfl⟩ : ∃ m : Nat, n = m := ⟨n.toNat, by omega⟩
 have hM : 1048576 ≤ maxLen := by decide
 have hg := d1g (a := a) (out := List.replicate m 0) (rate := rate) (p := q) hx.1 (by omega) (by omega) ⟨by simp; omega, fun z hz => by rw [List.eq_of_mem_replicate hz]; omega⟩
 rw [List.length_replicate] at hg
 unfold a0M
 refine (congrArg (fun o => Option.bind o _) (d3f hw.1)).trans ?_
 rw [Option.bind_some, if_neg (by simp)]
 dsimp only
 rw [c9m (by omega), Option.bind_some, if_neg (by omega), if_pos (by omega), if_pos rfl, if_pos (by omega), Int.toNat_natCast, hg, Option.bind_some]
 dsimp only
 rw [if_pos (by simp)]
 simp only [Int.toNat_natCast, decide_true]
theorem c0b (a : List Int) (m : Nat) : ∀ n : Nat, b0r n (b0r m a) = b0r (m + n) a
 | 0 => rfl
 | n + 1 => by rw [b0r, c0b a m n]; rfl
theorem d3S {rate : Nat} (hr : 0 < rate) (a : List Int) (p k : Nat) : b3y rate (T7 rate a p).1 ((T7 rate a p).2 + k) = b3y rate a (p + k) := by
 unfold b3y T7
 dsimp only
 have e := Nat.div_add_mod (p - 1) rate
 generalize (p - 1) / rate = q at *
 have h : p + k = (p - q * rate + k) + rate * q := by
  rw [Nat.mul_comm] at e
  have : q * rate ≤ p := by omega
  rw [Nat.mul_comm rate q]; omega
 rw [h, Nat.add_mul_div_left _ _ hr, Nat.add_mul_mod_self_left, c0b, Nat.add_comm q]
theorem d37 {rate : Nat} (hr : 0 < rate) (a : List Int) (p k : Nat) (hk : 0 < k) : T7 rate (T7 rate a p).1 ((T7 rate a p).2 + k) = T7 rate a (p + k) := by
 unfold T7
 dsimp only
 have e := Nat.div_add_mod (p - 1) rate
 generalize (p - 1) / rate = q at *
 have h0 : q * rate ≤ p := by rw [Nat.mul_comm] at e; omega
 have h : p + k - 1 = (p - q * rate + k - 1) + rate * q := by
  rw [Nat.mul_comm rate q]; omega
 rw [h, Nat.add_mul_div_left _ _ hr, c0b, Nat.add_comm q, Nat.add_mul]
 congr 1
 omega
abbrev z256 : List Int := List.replicate 256 0
theorem d0m (rate : Nat) (a : List Int) (p : Nat) : 0 ≤ b3y rate a p ∧ b3y rate a p ≤ 255 := by
 unfold b3y d2A
 simp [IntKind.wrap, IntKind.signed, IntKind.bits]; omega
theorem d36 {rate : Nat} (hr : 0 < rate) {a : List Int} (ha : u64s 25 a) (p : Nat) : u64s 25 (T7 rate a p).1 ∧ (T7 rate a p).2 ≤ rate := by
 refine ⟨c5W ha _, ?_⟩
 unfold T7
 have e := Nat.div_add_mod (p - 1) rate
 have e1 := Nat.mod_lt (p - 1) hr
 rw [Nat.mul_comm] at e
 show p - (p - 1) / rate * rate ≤ rate
 omega
theorem d0D (rate : Nat) (e : Int) (l : List Int) (n : Nat) : (a4g rate e l n).length = n := by simp [a4g]
theorem c8R (l : List Int) (p : Nat) : 0 ≤ shk l p ∧ shk l p ≤ 255 := d0m 168 _ p
theorem d32 (l : List Int) (p : Nat) : 0 ≤ shb l p ∧ shb l p ≤ 255 := d0m 136 _ p
theorem d59 (rate : Nat) (e : Int) (l : List Int) (n : Nat) : ∀ z ∈ a4g rate e l n, 0 ≤ z ∧ z ≤ 255 := by
 intro z hz
 obtain ⟨p, _, rfl⟩ := List.mem_map.1 hz
 exact d0m rate _ p
theorem c9i {rate : Nat} (hr : 8 ≤ rate ∧ rate ≤ 200) {A : List Int} {P n : Nat} (hA : u64s 25 A) (hn : n ≤ 1048576) {c : Int} (hc : 0 ≤ c ∧ c ≤ 1000000) : l9 ((true, (T7 rate A P).1, (rate : Int), ((T7 rate A P).2 : Int), c, ()), (n : Int), ())
  = some ((List.range n).map (fun k => b3y rate A (P + k)), 0, (true, (T7 rate A (P + n)).1, (rate : Int), ((T7 rate A (P + n)).2 : Int), c + n, ())) := by
 obtain ⟨h1, h2⟩ := d36 (rate := rate) (by omega) hA P
 have := c7 (ks := H6) (rs := H7) (x := ((true, (T7 rate A P).1, (rate : Int), ((T7 rate A P).2 : Int), c, ()), (n : Int), ()))
  (Q := fun x => x.1.1 = true ∧ 0 ≤ x.2.1 ∧ x.2.1 ≤ 1048576 ∧ b31 x.1.2.2.1 ∧ 0 ≤ x.1.2.2.2.1 ∧ x.1.2.2.2.1 ≤ x.1.2.2.1)
  (f := fun x => ((List.range x.2.1.toNat).map (fun k => b3y x.1.2.2.1.toNat x.1.2.1 (x.1.2.2.2.1.toNat + k)), 0,
  (true, (T7 x.1.2.2.1.toNat x.1.2.1 (x.1.2.2.2.1.toNat + x.2.1.toNat)).1, x.1.2.2.1, ((T7 x.1.2.2.1.toNat x.1.2.1 (x.1.2.2.2.1.toNat + x.2.1.toNat)).2 : Int), IntKind.i64.wrap (x.1.2.2.2.2.1 + x.2.1), ())))
  ⟨d5B.2 ⟨h1, by omega, by omega, by omega⟩, (j7 (n := (n : Int))).2 (by omega), trivial⟩ ⟨rfl, by show (0 : Int) ≤ n; omega, by show (n : Int) ≤ 1048576; omega, ⟨by show (8 : Int) ≤ rate; omega, by show (rate : Int) ≤ 200; omega⟩, by show (0 : Int) ≤ ((T7 rate A P).2 : Int); omega, by show ((T7 rate A P).2 : Int) ≤ rate; omega⟩
 refine Eq.trans this ?_
 have e : ∀ k, b3y rate (T7 rate A P).1 ((T7 rate A P).2 + k) = b3y rate A (P + k) := d3S (by omega) A P
 show some ((List.range (n : Int).toNat).map (fun k => b3y (rate : Int).toNat (T7 rate A P).1 (((T7 rate A P).2 : Int).toNat + k)), (0 : Int), (true, (T7 (rate : Int).toNat (T7 rate A P).1 (((T7 rate A P).2 : Int).toNat + (n : Int).toNat)).1, (rate : Int), ((T7 (rate : Int).toNat (T7 rate A P).1 (((T7 rate A P).2 : Int).toNat + (n : Int).toNat)).2 : Int), IntKind.i64.wrap (c + n), ())) = _
 simp only [Int.toNat_natCast, e]
 rw [b7 (by omega) (by omega)]
 by_cases hn0 : n = 0
 ·subst hn0
  simp only [Nat.add_zero]
  have : T7 rate (T7 rate A P).1 (T7 rate A P).2 = T7 rate A P := by
   have h := Nat.div_eq_of_lt (show (T7 rate A P).2 - 1 < rate by omega)
   show (b0r (((T7 rate A P).2 - 1) / rate) (T7 rate A P).1, (T7 rate A P).2 - ((T7 rate A P).2 - 1) / rate * rate) = _
   rw [h]
   simp [b0r]
  rw [this]
 ·rw [d37 (rate := rate) (by omega) A P n (by omega)]
theorem b6P : ∀ x r, P4 x = some r → ∃ N, a0L N x = some r := by
 refine c8 (ks := H4) (rs := H5) fun x hw hq => ⟨0, ?_⟩
 obtain ⟨(parts : List (List Int)), u⟩ := x
 have hp : a0y parts := a1F.1 hw.1
 unfold a0L
 refine (congrArg (fun o => Option.bind o _) (c1t (rate := 136) (by omega) hp)).trans ?_
 rw [Option.bind_some]
 rfl
theorem c5i {parts : List (List Int)} (hl : a0y parts) : P4 (parts, ()) = some (true, Z8 136 31 (z25, 0) parts.flatten, 136, 0, 0, ()) :=
 c7 (ks := H4) (rs := H5) (x := (parts, ())) ⟨a1F.2 hl, trivial⟩ trivial
theorem c3t (rate : Nat) (hr : 0 < rate) (e : Int) (l : List Int) : u64s 25 (Z8 rate e (z25, 0) l) := d07 ⟨d5C, by show 0 < rate; omega⟩ _ _
theorem c6O {rate : Nat} (hr : 8 ≤ rate ∧ rate ≤ 200) {l : List Int} {n : Nat} (hn : n ≤ 1048576) : ∃ y, l9 ((true, Z8 rate 31 (z25, 0) l, (rate : Int), 0, 0, ()), (n : Int), ()) = some (a4g rate 31 l n, 0, y) := by
 have h := c9i hr (P := 0) (n := n) (c3t rate (by omega) 31 l) hn (c := 0) (by omega)
 have hst : T7 rate (Z8 rate 31 (z25, 0) l) 0 = (Z8 rate 31 (z25, 0) l, 0) := b61 _ (by omega) (by omega)
 rw [hst] at h
 refine ⟨(true, (T7 rate (Z8 rate 31 (z25, 0) l) (0 + n)).1, (rate : Int), ((T7 rate (Z8 rate 31 (z25, 0) l) (0 + n)).2 : Int), 0 + (n : Int), ()), h.trans ?_⟩
 simp only [Nat.zero_add]
 rfl
theorem c1g : ∀ x r, Y1 x = some r → ∃ N, a3B N x = some r := by
 refine c8 (ks := Q9) (rs := R0) fun x hw hq => ⟨0, ?_⟩
 obtain ⟨(b : Int), (n : Int), (parts : List (List Int)), u⟩ := x
 have hp : a0y parts := a1F.1 hw.2.2.1
 obtain ⟨hb, hn0, hn1⟩ : (b = 128 ∨ b = 256) ∧ 0 ≤ n ∧ n ≤ 1048576 := hq
 obtain ⟨m, rfl⟩ : ∃ m : Nat, n = m := ⟨n.toNat, by omega⟩
 unfold a3B
 dsimp only
 rcases hb with rfl | rfl
 ·obtain ⟨y, e⟩ := c6O (rate := 168) (by omega) (l := parts.flatten) (n := m) (by omega)
  rw [if_neg (by simp), c9m (by omega), Option.bind_some, if_neg (by simp), if_pos rfl, b8P hp, Option.bind_some]
  refine (congrArg (fun o => Option.bind o _) e).trans ?_
  rfl
 ·obtain ⟨y, e⟩ := c6O (rate := 136) (by omega) (l := parts.flatten) (n := m) (by omega)
  rw [if_pos (by omega), if_neg (by simp), c9m (by omega), Option.bind_some, if_neg (by simp), if_neg (by omega), c5i hp, Option.bind_some]
  refine (congrArg (fun o => Option.bind o _) e).trans ?_
  rfl
theorem c6P {b : Int} (hb : b = 128 ∨ b = 256) {n : Nat} (hn : n ≤ 1048576) {parts : List (List Int)} (hl : a0y parts) : Y1 (b, (n : Int), parts, ()) = some (a4g (if b = 128 then 168 else 136) 31 parts.flatten n, 0) := by
 have := c7 (ks := Q9) (rs := R0) (x := (b, (n : Int), parts, ())) (Q := fun x => (x.1 = 128 ∨ x.1 = 256) ∧ 0 ≤ x.2.1 ∧ x.2.1 ≤ 1048576) (f := fun x => (a4g (if x.1 = 128 then 168 else 136) 31 x.2.2.1.flatten x.2.1.toNat, 0))
  ⟨j7.2 (by show _ ≤ b ∧ b ≤ _; omega), (j7 (n := (n : Int))).2 (by omega), a1F.2 hl, trivial⟩ ⟨hb, by show (0 : Int) ≤ n; omega, by show (n : Int) ≤ 1048576; omega⟩
 exact this
theorem c7t {l : List Int} (hl : l.length ≤ 4294967000 ∧ ∀ z ∈ l, 0 ≤ z ∧ z ≤ 255) : a0y [l] := by
 have hM : 4294967296 ≤ maxLen := by decide
 exact ⟨by simp only [List.length_cons, List.length_nil]; omega, fun zs hz => by rw [List.mem_singleton.1 hz]; exact ⟨by omega, hl.2⟩⟩
theorem d4R (l : List Int) : [l].flatten = l := by simp
end Go.Ax.TryP
