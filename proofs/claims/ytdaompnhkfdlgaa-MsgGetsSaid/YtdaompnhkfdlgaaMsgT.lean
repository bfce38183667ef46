/- A part of the proof: MsgT. -/
import Derived.Test.YtdaompnhkfdlgaaAxD
import Derived.Test.YtdaompnhkfdlgaaProg
set_option linter.unusedVariables false
namespace Go.Ax.TryP
open Go.Proofs
abbrev U : TV := .one .any
abbrev V : HV := .any
abbrev b8 : CK := .int .u8
abbrev b16 : CK := .int .u16
abbrev b32 : CK := .int .i32
abbrev b64 : CK := .int .i64
theorem mix : Try.prog.follows .mixedOrders = true := by kernel_rfl
noncomputable def ty3 : TyI where
 td := .int .i64
 size := 1
 bytes := 8
 zero := [.xs b64 1 [0]]
theorem X9 : TyOk Try.prog 3 ty3 :=
 TyOk.of (f := Try.t3) (z := (Try.t3.zero).getD .nilIface) (cs := (C6 ty3.zero).getD []) Try.underlying3 (by kernel_rfl) (by kernel_rfl) ⟨by kernel_rfl, by kernel_rfl⟩ (by kernel_rfl) (by kernel_rfl) (by kernel_rfl) (by kernel_rfl) (by kernel_rfl)
noncomputable def ty4 : TyI where
 td := .bool
 size := 1
 bytes := 1
 zero := [.xs .bool 1 [0]]
theorem b38 : TyOk Try.prog 4 ty4 :=
 TyOk.of (f := Try.t4) (z := (Try.t4.zero).getD .nilIface) (cs := (C6 ty4.zero).getD []) Try.underlying4 (by kernel_rfl) (by kernel_rfl) ⟨by kernel_rfl, by kernel_rfl⟩ (by kernel_rfl) (by kernel_rfl) (by kernel_rfl) (by kernel_rfl) (by kernel_rfl)
noncomputable def ty5 : TyI where
 td := .int .u8
 size := 1
 bytes := 1
 zero := [.xs b8 1 [0]]
theorem Y0 : TyOk Try.prog 5 ty5 :=
 TyOk.of (f := Try.t5) (z := (Try.t5.zero).getD .nilIface) (cs := (C6 ty5.zero).getD []) Try.underlying5 (by kernel_rfl) (by kernel_rfl) ⟨by kernel_rfl, by kernel_rfl⟩ (by kernel_rfl) (by kernel_rfl) (by kernel_rfl) (by kernel_rfl) (by kernel_rfl)
noncomputable def ty9 : TyI where
 td := .str
 size := 1
 bytes := 16
 zero := [.one (.str (⟨#[]⟩ : ByteArray))]
theorem a9X : TyOk Try.prog 9 ty9 :=
 TyOk.of (f := Try.t9) (z := (Try.t9.zero).getD .nilIface) (cs := (C6 ty9.zero).getD []) Try.underlying9 (by kernel_rfl) (by kernel_rfl) ⟨by kernel_rfl, by kernel_rfl⟩ (by kernel_rfl) (by kernel_rfl) (by kernel_rfl) (by kernel_rfl) (by kernel_rfl)
noncomputable def ty25 : TyI where
 td := .int .u32
 size := 1
 bytes := 4
 zero := [.xs (.int .u32) 1 [0]]
theorem a2k : TyOk Try.prog 25 ty25 :=
 TyOk.of (f := Try.t25) (z := (Try.t25.zero).getD .nilIface) (cs := (C6 ty25.zero).getD []) Try.underlying25 (by kernel_rfl) (by kernel_rfl) ⟨by kernel_rfl, by kernel_rfl⟩ (by kernel_rfl) (by kernel_rfl) (by kernel_rfl) (by kernel_rfl) (by kernel_rfl)
noncomputable def ty26 : TyI where
 td := .int .u64
 size := 1
 bytes := 8
 zero := [.xs (.int .u64) 1 [0]]
theorem I7 : TyOk Try.prog 26 ty26 :=
 TyOk.of (f := Try.t26) (z := (Try.t26.zero).getD .nilIface) (cs := (C6 ty26.zero).getD []) Try.underlying26 (by kernel_rfl) (by kernel_rfl) ⟨by kernel_rfl, by kernel_rfl⟩ (by kernel_rfl) (by kernel_rfl) (by kernel_rfl) (by kernel_rfl) (by kernel_rfl)
noncomputable def ty28 : TyI where
 td := .st [(0, 26), (1, 26)]
 size := 2
 bytes := 16
 zero := [.xs (.int .u64) 2 (List.replicate 2 0)]
theorem a00 : TyOk Try.prog 28 ty28 :=
 TyOk.of (f := Try.t28) (z := (Try.t28.zero).getD .nilIface) (cs := (C6 ty28.zero).getD []) Try.underlying28 (by kernel_rfl) (by kernel_rfl) ⟨by kernel_rfl, by kernel_rfl⟩ (by kernel_rfl) (by kernel_rfl) (by kernel_rfl) (by kernel_rfl) (by kernel_rfl)
noncomputable def ty29 : TyI where
 td := .sl 5
 size := 1
 bytes := 24
 zero := [.one (.nilsl)]
theorem v6 : TyOk Try.prog 29 ty29 :=
 TyOk.of (f := Try.t29) (z := (Try.t29.zero).getD .nilIface) (cs := (C6 ty29.zero).getD []) Try.underlying29 (by kernel_rfl) (by kernel_rfl) ⟨by kernel_rfl, by kernel_rfl⟩ (by kernel_rfl) (by kernel_rfl) (by kernel_rfl) (by kernel_rfl) (by kernel_rfl)
noncomputable def ty31 : TyI where
 td := .st [(0, 3), (1, 3), (2, 3), (3, 25), (4, 25), (5, 28), (7, 3), (8, 3), (9, 29), (10, 29), (11, 29)]
 size := 12
 bytes := 136
 zero := [.xs b64 1 [0], .xs b64 1 [0], .xs b64 1 [0], .xs (.int .u32) 1 [0], .xs (.int .u32) 1 [0], .xs (.int .u64) 2 (List.replicate 2 0), .xs b64 1 [0], .xs b64 1 [0], .one (.nilsl), .one (.nilsl), .one (.nilsl)]
theorem N5 : TyOk Try.prog 31 ty31 :=
 TyOk.of (f := Try.t31) (z := (Try.t31.zero).getD .nilIface) (cs := (C6 ty31.zero).getD []) Try.underlying31 (by kernel_rfl) (by kernel_rfl) ⟨by kernel_rfl, by kernel_rfl⟩ (by kernel_rfl) (by kernel_rfl) (by kernel_rfl) (by kernel_rfl) (by kernel_rfl)
noncomputable def ty33 : TyI where
 td := .int .i64
 size := 1
 bytes := 8
 zero := [.xs b64 1 [0]]
theorem a49 : TyOk Try.prog 33 ty33 :=
 TyOk.of (f := Try.t33) (z := (Try.t33.zero).getD .nilIface) (cs := (C6 ty33.zero).getD []) Try.underlying33 (by kernel_rfl) (by kernel_rfl) ⟨by kernel_rfl, by kernel_rfl⟩ (by kernel_rfl) (by kernel_rfl) (by kernel_rfl) (by kernel_rfl) (by kernel_rfl)
noncomputable def ty42 : TyI where
 td := .sl 29
 size := 1
 bytes := 24
 zero := [.one (.nilsl)]
theorem a9W : TyOk Try.prog 42 ty42 :=
 TyOk.of (f := Try.t42) (z := (Try.t42.zero).getD .nilIface) (cs := (C6 ty42.zero).getD []) Try.underlying42 (by kernel_rfl) (by kernel_rfl) ⟨by kernel_rfl, by kernel_rfl⟩ (by kernel_rfl) (by kernel_rfl) (by kernel_rfl) (by kernel_rfl) (by kernel_rfl)
noncomputable def ty43 : TyI where
 td := .sl 4
 size := 1
 bytes := 24
 zero := [.one (.nilsl)]
theorem b2u : TyOk Try.prog 43 ty43 :=
 TyOk.of (f := Try.t43) (z := (Try.t43.zero).getD .nilIface) (cs := (C6 ty43.zero).getD []) Try.underlying43 (by kernel_rfl) (by kernel_rfl) ⟨by kernel_rfl, by kernel_rfl⟩ (by kernel_rfl) (by kernel_rfl) (by kernel_rfl) (by kernel_rfl) (by kernel_rfl)
noncomputable def ty52 : TyI where
 td := .arr 9 9
 size := 9
 bytes := 144
 zero := [.one (.str (⟨#[]⟩ : ByteArray)), .one (.str (⟨#[]⟩ : ByteArray)), .one (.str (⟨#[]⟩ : ByteArray)), .one (.str (⟨#[]⟩ : ByteArray)), .one (.str (⟨#[]⟩ : ByteArray)), .one (.str (⟨#[]⟩ : ByteArray)), .one (.str (⟨#[]⟩ : ByteArray)), .one (.str (⟨#[]⟩ : ByteArray)), .one (.str (⟨#[]⟩ : ByteArray))]
theorem c0L : TyOk Try.prog 52 ty52 :=
 TyOk.of (f := Try.t52) (z := (Try.t52.zero).getD .nilIface) (cs := (C6 ty52.zero).getD []) Try.underlying52 (by kernel_rfl) (by kernel_rfl) ⟨by kernel_rfl, by kernel_rfl⟩ (by kernel_rfl) (by kernel_rfl) (by kernel_rfl) (by kernel_rfl) (by kernel_rfl)
noncomputable def ty53 : TyI where
 td := .sl 9
 size := 1
 bytes := 24
 zero := [.one (.nilsl)]
theorem c0M : TyOk Try.prog 53 ty53 :=
 TyOk.of (f := Try.t53) (z := (Try.t53.zero).getD .nilIface) (cs := (C6 ty53.zero).getD []) Try.underlying53 (by kernel_rfl) (by kernel_rfl) ⟨by kernel_rfl, by kernel_rfl⟩ (by kernel_rfl) (by kernel_rfl) (by kernel_rfl) (by kernel_rfl) (by kernel_rfl)
noncomputable def ty64 : TyI where
 td := .st [(0, 33)]
 size := 1
 bytes := 8
 zero := [.xs b64 1 [0]]
theorem b2v : TyOk Try.prog 64 ty64 :=
 TyOk.of (f := Try.t64) (z := (Try.t64.zero).getD .nilIface) (cs := (C6 ty64.zero).getD []) Try.underlying64 (by kernel_rfl) (by kernel_rfl) ⟨by kernel_rfl, by kernel_rfl⟩ (by kernel_rfl) (by kernel_rfl) (by kernel_rfl) (by kernel_rfl) (by kernel_rfl)
noncomputable def ty67 : TyI where
 td := .st [(0, 29)]
 size := 1
 bytes := 24
 zero := [.one (.nilsl)]
theorem b8v : TyOk Try.prog 67 ty67 :=
 TyOk.of (f := Try.t67) (z := (Try.t67.zero).getD .nilIface) (cs := (C6 ty67.zero).getD []) Try.underlying67 (by kernel_rfl) (by kernel_rfl) ⟨by kernel_rfl, by kernel_rfl⟩ (by kernel_rfl) (by kernel_rfl) (by kernel_rfl) (by kernel_rfl) (by kernel_rfl)
noncomputable def ty69 : TyI where
 td := .sl 73
 size := 1
 bytes := 24
 zero := [.one (.nilsl)]
theorem b5b : TyOk Try.prog 69 ty69 :=
 TyOk.of (f := Try.t69) (z := (Try.t69.zero).getD .nilIface) (cs := (C6 ty69.zero).getD []) Try.underlying69 (by kernel_rfl) (by kernel_rfl) ⟨by kernel_rfl, by kernel_rfl⟩ (by kernel_rfl) (by kernel_rfl) (by kernel_rfl) (by kernel_rfl) (by kernel_rfl)
noncomputable def ty73 : TyI where
 td := .other
 size := 1
 bytes := 16
 zero := [.one (.nilif)]
theorem b5c : TyOk Try.prog 73 ty73 :=
 TyOk.of (f := Try.t73) (z := (Try.t73.zero).getD .nilIface) (cs := (C6 ty73.zero).getD []) Try.underlying73 (by kernel_rfl) (by kernel_rfl) ⟨by kernel_rfl, by kernel_rfl⟩ (by kernel_rfl) (by kernel_rfl) (by kernel_rfl) (by kernel_rfl) (by kernel_rfl)
noncomputable def ty77 : TyI where
 td := .st [(0, 29), (1, 33)]
 size := 2
 bytes := 32
 zero := [.one (.nilsl), .xs b64 1 [0]]
theorem b5d : TyOk Try.prog 77 ty77 :=
 TyOk.of (f := Try.t77) (z := (Try.t77.zero).getD .nilIface) (cs := (C6 ty77.zero).getD []) Try.underlying77 (by kernel_rfl) (by kernel_rfl) ⟨by kernel_rfl, by kernel_rfl⟩ (by kernel_rfl) (by kernel_rfl) (by kernel_rfl) (by kernel_rfl) (by kernel_rfl)
noncomputable def ty79 : TyI where
 td := .ptr 29
 size := 1
 bytes := 8
 zero := [.one (.nilp)]
theorem b5e : TyOk Try.prog 79 ty79 :=
 TyOk.of (f := Try.t79) (z := (Try.t79.zero).getD .nilIface) (cs := (C6 ty79.zero).getD []) Try.underlying79 (by kernel_rfl) (by kernel_rfl) ⟨by kernel_rfl, by kernel_rfl⟩ (by kernel_rfl) (by kernel_rfl) (by kernel_rfl) (by kernel_rfl) (by kernel_rfl)
noncomputable def ty81 : TyI where
 td := .st [(0, 79), (1, 3)]
 size := 2
 bytes := 16
 zero := [.one (.nilp), .xs b64 1 [0]]
theorem b5f : TyOk Try.prog 81 ty81 :=
 TyOk.of (f := Try.t81) (z := (Try.t81.zero).getD .nilIface) (cs := (C6 ty81.zero).getD []) Try.underlying81 (by kernel_rfl) (by kernel_rfl) ⟨by kernel_rfl, by kernel_rfl⟩ (by kernel_rfl) (by kernel_rfl) (by kernel_rfl) (by kernel_rfl) (by kernel_rfl)
noncomputable def ty84 : TyI where
 td := .int .u16
 size := 1
 bytes := 2
 zero := [.xs b16 1 [0]]
theorem b8w : TyOk Try.prog 84 ty84 :=
 TyOk.of (f := Try.t84) (z := (Try.t84.zero).getD .nilIface) (cs := (C6 ty84.zero).getD []) Try.underlying84 (by kernel_rfl) (by kernel_rfl) ⟨by kernel_rfl, by kernel_rfl⟩ (by kernel_rfl) (by kernel_rfl) (by kernel_rfl) (by kernel_rfl) (by kernel_rfl)
noncomputable def ty90 : TyI where
 td := .sl 28
 size := 1
 bytes := 24
 zero := [.one (.nilsl)]
theorem b8x : TyOk Try.prog 90 ty90 :=
 TyOk.of (f := Try.t90) (z := (Try.t90.zero).getD .nilIface) (cs := (C6 ty90.zero).getD []) Try.underlying90 (by kernel_rfl) (by kernel_rfl) ⟨by kernel_rfl, by kernel_rfl⟩ (by kernel_rfl) (by kernel_rfl) (by kernel_rfl) (by kernel_rfl) (by kernel_rfl)
noncomputable def ty93 : TyI where
 td := .ptr 3
 size := 1
 bytes := 8
 zero := [.one (.nilp)]
theorem b5g : TyOk Try.prog 93 ty93 :=
 TyOk.of (f := Try.t93) (z := (Try.t93.zero).getD .nilIface) (cs := (C6 ty93.zero).getD []) Try.underlying93 (by kernel_rfl) (by kernel_rfl) ⟨by kernel_rfl, by kernel_rfl⟩ (by kernel_rfl) (by kernel_rfl) (by kernel_rfl) (by kernel_rfl) (by kernel_rfl)
noncomputable def ty95 : TyI where
 td := .st [(0, 93)]
 size := 1
 bytes := 8
 zero := [.one (.nilp)]
theorem b5h : TyOk Try.prog 95 ty95 :=
 TyOk.of (f := Try.t95) (z := (Try.t95.zero).getD .nilIface) (cs := (C6 ty95.zero).getD []) Try.underlying95 (by kernel_rfl) (by kernel_rfl) ⟨by kernel_rfl, by kernel_rfl⟩ (by kernel_rfl) (by kernel_rfl) (by kernel_rfl) (by kernel_rfl) (by kernel_rfl)
noncomputable def ty96 : TyI where
 td := .ptr 25
 size := 1
 bytes := 8
 zero := [.one (.nilp)]
theorem b5i : TyOk Try.prog 96 ty96 :=
 TyOk.of (f := Try.t96) (z := (Try.t96.zero).getD .nilIface) (cs := (C6 ty96.zero).getD []) Try.underlying96 (by kernel_rfl) (by kernel_rfl) ⟨by kernel_rfl, by kernel_rfl⟩ (by kernel_rfl) (by kernel_rfl) (by kernel_rfl) (by kernel_rfl) (by kernel_rfl)
noncomputable def ty98 : TyI where
 td := .st [(0, 96)]
 size := 1
 bytes := 8
 zero := [.one (.nilp)]
theorem b5j : TyOk Try.prog 98 ty98 :=
 TyOk.of (f := Try.t98) (z := (Try.t98.zero).getD .nilIface) (cs := (C6 ty98.zero).getD []) Try.underlying98 (by kernel_rfl) (by kernel_rfl) ⟨by kernel_rfl, by kernel_rfl⟩ (by kernel_rfl) (by kernel_rfl) (by kernel_rfl) (by kernel_rfl) (by kernel_rfl)
noncomputable def ty99 : TyI where
 td := .ptr 26
 size := 1
 bytes := 8
 zero := [.one (.nilp)]
theorem b5k : TyOk Try.prog 99 ty99 :=
 TyOk.of (f := Try.t99) (z := (Try.t99.zero).getD .nilIface) (cs := (C6 ty99.zero).getD []) Try.underlying99 (by kernel_rfl) (by kernel_rfl) ⟨by kernel_rfl, by kernel_rfl⟩ (by kernel_rfl) (by kernel_rfl) (by kernel_rfl) (by kernel_rfl) (by kernel_rfl)
noncomputable def ty101 : TyI where
 td := .st [(0, 99)]
 size := 1
 bytes := 8
 zero := [.one (.nilp)]
theorem b2s : TyOk Try.prog 101 ty101 :=
 TyOk.of (f := Try.t101) (z := (Try.t101.zero).getD .nilIface) (cs := (C6 ty101.zero).getD []) Try.underlying101 (by kernel_rfl) (by kernel_rfl) ⟨by kernel_rfl, by kernel_rfl⟩ (by kernel_rfl) (by kernel_rfl) (by kernel_rfl) (by kernel_rfl) (by kernel_rfl)
noncomputable def ty102 : TyI where
 td := .st [(0, 93)]
 size := 1
 bytes := 8
 zero := [.one (.nilp)]
theorem b2t : TyOk Try.prog 102 ty102 :=
 TyOk.of (f := Try.t102) (z := (Try.t102.zero).getD .nilIface) (cs := (C6 ty102.zero).getD []) Try.underlying102 (by kernel_rfl) (by kernel_rfl) ⟨by kernel_rfl, by kernel_rfl⟩ (by kernel_rfl) (by kernel_rfl) (by kernel_rfl) (by kernel_rfl) (by kernel_rfl)
theorem A0 : StEq Try.prog 28 .u64 2 := StEq.of (by kernel_rfl) (by kernel_rfl) (by kernel_rfl) (by kernel_rfl) (by kernel_rfl)
theorem a6q : i7 Try.prog 11 := ⟨Try.f11, Try.func11, by kernel_rfl, by kernel_rfl⟩
theorem a0D : i7 Try.prog 12 := ⟨Try.f12, Try.func12, by kernel_rfl, by kernel_rfl⟩
theorem a2q : i7 Try.prog 13 := ⟨Try.f13, Try.func13, by kernel_rfl, by kernel_rfl⟩
theorem a2Y : i7 Try.prog 14 := ⟨Try.f14, Try.func14, by kernel_rfl, by kernel_rfl⟩
theorem a05 : i7 Try.prog 15 := ⟨Try.f15, Try.func15, by kernel_rfl, by kernel_rfl⟩
theorem a93 : i7 Try.prog 17 := ⟨Try.f17, Try.func17, by kernel_rfl, by kernel_rfl⟩
theorem J8 : i7 Try.prog 19 := ⟨Try.f19, Try.func19, by kernel_rfl, by kernel_rfl⟩
theorem a2o : i7 Try.prog 25 := ⟨Try.f25, Try.func25, by kernel_rfl, by kernel_rfl⟩
theorem a5l : i7 Try.prog 26 := ⟨Try.f26, Try.func26, by kernel_rfl, by kernel_rfl⟩
theorem a6A : i7 Try.prog 28 := ⟨Try.f28, Try.func28, by kernel_rfl, by kernel_rfl⟩
theorem a04 : i7 Try.prog 31 := ⟨Try.f31, Try.func31, by kernel_rfl, by kernel_rfl⟩
theorem a92 : i7 Try.prog 32 := ⟨Try.f32, Try.func32, by kernel_rfl, by kernel_rfl⟩
theorem a7G : i7 Try.prog 33 := ⟨Try.f33, Try.func33, by kernel_rfl, by kernel_rfl⟩
theorem a8G : i7 Try.prog 34 := ⟨Try.f34, Try.func34, by kernel_rfl, by kernel_rfl⟩
theorem a0E : i7 Try.prog 36 := ⟨Try.f36, Try.func36, by kernel_rfl, by kernel_rfl⟩
theorem a6x : i7 Try.prog 37 := ⟨Try.f37, Try.func37, by kernel_rfl, by kernel_rfl⟩
theorem a7H : i7 Try.prog 38 := ⟨Try.f38, Try.func38, by kernel_rfl, by kernel_rfl⟩
theorem a6w : i7 Try.prog 40 := ⟨Try.f40, Try.func40, by kernel_rfl, by kernel_rfl⟩
theorem a6z : i7 Try.prog 41 := ⟨Try.f41, Try.func41, by kernel_rfl, by kernel_rfl⟩
theorem B8 : i7 Try.prog 42 := ⟨Try.f42, Try.func42, by kernel_rfl, by kernel_rfl⟩
theorem a6r : i7 Try.prog 43 := ⟨Try.f43, Try.func43, by kernel_rfl, by kernel_rfl⟩
theorem a6u : i7 Try.prog 44 := ⟨Try.f44, Try.func44, by kernel_rfl, by kernel_rfl⟩
theorem a6t : i7 Try.prog 45 := ⟨Try.f45, Try.func45, by kernel_rfl, by kernel_rfl⟩
theorem a6v : i7 Try.prog 46 := ⟨Try.f46, Try.func46, by kernel_rfl, by kernel_rfl⟩
theorem a8H : i7 Try.prog 47 := ⟨Try.f47, Try.func47, by kernel_rfl, by kernel_rfl⟩
theorem a6s : i7 Try.prog 48 := ⟨Try.f48, Try.func48, by kernel_rfl, by kernel_rfl⟩
theorem a7F : i7 Try.prog 49 := ⟨Try.f49, Try.func49, by kernel_rfl, by kernel_rfl⟩
theorem a8I : i7 Try.prog 50 := ⟨Try.f50, Try.func50, by kernel_rfl, by kernel_rfl⟩
theorem a4I : i7 Try.prog 51 := ⟨Try.f51, Try.func51, by kernel_rfl, by kernel_rfl⟩
theorem a7B : i7 Try.prog 55 := ⟨Try.f55, Try.func55, by kernel_rfl, by kernel_rfl⟩
theorem I8 : i7 Try.prog 56 := ⟨Try.f56, Try.func56, by kernel_rfl, by kernel_rfl⟩
theorem a03 : i7 Try.prog 57 := ⟨Try.f57, Try.func57, by kernel_rfl, by kernel_rfl⟩
theorem a2C : i7 Try.prog 58 := ⟨Try.f58, Try.func58, by kernel_rfl, by kernel_rfl⟩
theorem F2 : i7 Try.prog 59 := ⟨Try.f59, Try.func59, by kernel_rfl, by kernel_rfl⟩
theorem a06 : i7 Try.prog 60 := ⟨Try.f60, Try.func60, by kernel_rfl, by kernel_rfl⟩
theorem a7E : i7 Try.prog 61 := ⟨Try.f61, Try.func61, by kernel_rfl, by kernel_rfl⟩
theorem a7D : i7 Try.prog 62 := ⟨Try.f62, Try.func62, by kernel_rfl, by kernel_rfl⟩
theorem a7C : i7 Try.prog 63 := ⟨Try.f63, Try.func63, by kernel_rfl, by kernel_rfl⟩
theorem a8J : i7 Try.prog 66 := ⟨Try.f66, Try.func66, by kernel_rfl, by kernel_rfl⟩
theorem a5k : i7 Try.prog 67 := ⟨Try.f67, Try.func67, by kernel_rfl, by kernel_rfl⟩
theorem L6 : i7 Try.prog 68 := ⟨Try.f68, Try.func68, by kernel_rfl, by kernel_rfl⟩
theorem a4H : i7 Try.prog 69 := ⟨Try.f69, Try.func69, by kernel_rfl, by kernel_rfl⟩
theorem J9 : i7 Try.prog 70 := ⟨Try.f70, Try.func70, by kernel_rfl, by kernel_rfl⟩
theorem a2p : i7 Try.prog 71 := ⟨Try.f71, Try.func71, by kernel_rfl, by kernel_rfl⟩
theorem a6y : i7 Try.prog 72 := ⟨Try.f72, Try.func72, by kernel_rfl, by kernel_rfl⟩
theorem a8K : i7 Try.prog 73 := ⟨Try.f73, Try.func73, by kernel_rfl, by kernel_rfl⟩
theorem Z2 : i7 Try.prog 90 := ⟨Try.f90, Try.func90, by kernel_rfl, by kernel_rfl⟩
theorem R8 : i7 Try.prog 91 := ⟨Try.f91, Try.func91, by kernel_rfl, by kernel_rfl⟩
theorem Z4 : i7 Try.prog 92 := ⟨Try.f92, Try.func92, by kernel_rfl, by kernel_rfl⟩
theorem Z1 : i7 Try.prog 93 := ⟨Try.f93, Try.func93, by kernel_rfl, by kernel_rfl⟩
theorem T5 : i7 Try.prog 94 := ⟨Try.f94, Try.func94, by kernel_rfl, by kernel_rfl⟩
end Go.Ax.TryP
