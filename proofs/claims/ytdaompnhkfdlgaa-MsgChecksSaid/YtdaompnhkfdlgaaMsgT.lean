/- A part of the proof: MsgT. -/
import Derived.Test.YtdaompnhkfdlgaaAxD
import Derived.Test.YtdaompnhkfdlgaaProg
/-! Printed by program (gen.py). -/
set_option linter.unusedVariables false
namespace Go.Ax.TryP
theorem mix : Go.Proofs.Try.prog.follows .mixedOrders = true := by kernel_rfl
noncomputable def ty2 : TyI where
  td := .int .i64
  size := 1
  bytes := 8
  zero := [.xs (.int .i64) 1 [0]]
theorem ty2_ok : TyOk Go.Proofs.Try.prog 2 ty2 :=
  TyOk.of (f := Go.Proofs.Try.t2) (z := (Go.Proofs.Try.t2.zero).getD .nilIface) (cs := (zeroS ty2.zero).getD []) Go.Proofs.Try.underlying2 (by kernel_rfl) (by kernel_rfl) ⟨by kernel_rfl, by kernel_rfl⟩ (by kernel_rfl) (by kernel_rfl) (by kernel_rfl) (by kernel_rfl) (by kernel_rfl)
noncomputable def ty3 : TyI where
  td := .int .i64
  size := 1
  bytes := 8
  zero := [.xs (.int .i64) 1 [0]]
theorem ty3_ok : TyOk Go.Proofs.Try.prog 3 ty3 :=
  TyOk.of (f := Go.Proofs.Try.t3) (z := (Go.Proofs.Try.t3.zero).getD .nilIface) (cs := (zeroS ty3.zero).getD []) Go.Proofs.Try.underlying3 (by kernel_rfl) (by kernel_rfl) ⟨by kernel_rfl, by kernel_rfl⟩ (by kernel_rfl) (by kernel_rfl) (by kernel_rfl) (by kernel_rfl) (by kernel_rfl)
noncomputable def ty4 : TyI where
  td := .bool
  size := 1
  bytes := 1
  zero := [.xs .bool 1 [0]]
theorem ty4_ok : TyOk Go.Proofs.Try.prog 4 ty4 :=
  TyOk.of (f := Go.Proofs.Try.t4) (z := (Go.Proofs.Try.t4.zero).getD .nilIface) (cs := (zeroS ty4.zero).getD []) Go.Proofs.Try.underlying4 (by kernel_rfl) (by kernel_rfl) ⟨by kernel_rfl, by kernel_rfl⟩ (by kernel_rfl) (by kernel_rfl) (by kernel_rfl) (by kernel_rfl) (by kernel_rfl)
noncomputable def ty5 : TyI where
  td := .int .u8
  size := 1
  bytes := 1
  zero := [.xs (.int .u8) 1 [0]]
theorem ty5_ok : TyOk Go.Proofs.Try.prog 5 ty5 :=
  TyOk.of (f := Go.Proofs.Try.t5) (z := (Go.Proofs.Try.t5.zero).getD .nilIface) (cs := (zeroS ty5.zero).getD []) Go.Proofs.Try.underlying5 (by kernel_rfl) (by kernel_rfl) ⟨by kernel_rfl, by kernel_rfl⟩ (by kernel_rfl) (by kernel_rfl) (by kernel_rfl) (by kernel_rfl) (by kernel_rfl)
noncomputable def ty6 : TyI where
  td := .int .u8
  size := 1
  bytes := 1
  zero := [.xs (.int .u8) 1 [0]]
theorem ty6_ok : TyOk Go.Proofs.Try.prog 6 ty6 :=
  TyOk.of (f := Go.Proofs.Try.t6) (z := (Go.Proofs.Try.t6.zero).getD .nilIface) (cs := (zeroS ty6.zero).getD []) Go.Proofs.Try.underlying6 (by kernel_rfl) (by kernel_rfl) ⟨by kernel_rfl, by kernel_rfl⟩ (by kernel_rfl) (by kernel_rfl) (by kernel_rfl) (by kernel_rfl) (by kernel_rfl)
noncomputable def ty7 : TyI where
  td := .st [(0, 2), (1, 3), (2, 4), (3, 6)]
  size := 4
  bytes := 24
  zero := [.xs (.int .i64) 1 [0], .xs (.int .i64) 1 [0], .xs .bool 1 [0], .xs (.int .u8) 1 [0]]
theorem ty7_ok : TyOk Go.Proofs.Try.prog 7 ty7 :=
  TyOk.of (f := Go.Proofs.Try.t7) (z := (Go.Proofs.Try.t7.zero).getD .nilIface) (cs := (zeroS ty7.zero).getD []) Go.Proofs.Try.underlying7 (by kernel_rfl) (by kernel_rfl) ⟨by kernel_rfl, by kernel_rfl⟩ (by kernel_rfl) (by kernel_rfl) (by kernel_rfl) (by kernel_rfl) (by kernel_rfl)
noncomputable def ty8 : TyI where
  td := .st [(0, 2), (1, 3), (2, 4), (3, 6)]
  size := 4
  bytes := 24
  zero := [.xs (.int .i64) 1 [0], .xs (.int .i64) 1 [0], .xs .bool 1 [0], .xs (.int .u8) 1 [0]]
theorem ty8_ok : TyOk Go.Proofs.Try.prog 8 ty8 :=
  TyOk.of (f := Go.Proofs.Try.t8) (z := (Go.Proofs.Try.t8.zero).getD .nilIface) (cs := (zeroS ty8.zero).getD []) Go.Proofs.Try.underlying8 (by kernel_rfl) (by kernel_rfl) ⟨by kernel_rfl, by kernel_rfl⟩ (by kernel_rfl) (by kernel_rfl) (by kernel_rfl) (by kernel_rfl) (by kernel_rfl)
noncomputable def ty9 : TyI where
  td := .str
  size := 1
  bytes := 16
  zero := [.one (.str (⟨#[]⟩ : ByteArray))]
theorem ty9_ok : TyOk Go.Proofs.Try.prog 9 ty9 :=
  TyOk.of (f := Go.Proofs.Try.t9) (z := (Go.Proofs.Try.t9.zero).getD .nilIface) (cs := (zeroS ty9.zero).getD []) Go.Proofs.Try.underlying9 (by kernel_rfl) (by kernel_rfl) ⟨by kernel_rfl, by kernel_rfl⟩ (by kernel_rfl) (by kernel_rfl) (by kernel_rfl) (by kernel_rfl) (by kernel_rfl)
noncomputable def ty10 : TyI where
  td := .str
  size := 1
  bytes := 16
  zero := [.one (.str (⟨#[]⟩ : ByteArray))]
theorem ty10_ok : TyOk Go.Proofs.Try.prog 10 ty10 :=
  TyOk.of (f := Go.Proofs.Try.t10) (z := (Go.Proofs.Try.t10.zero).getD .nilIface) (cs := (zeroS ty10.zero).getD []) Go.Proofs.Try.underlying10 (by kernel_rfl) (by kernel_rfl) ⟨by kernel_rfl, by kernel_rfl⟩ (by kernel_rfl) (by kernel_rfl) (by kernel_rfl) (by kernel_rfl) (by kernel_rfl)
noncomputable def ty11 : TyI where
  td := .str
  size := 1
  bytes := 16
  zero := [.one (.str (⟨#[]⟩ : ByteArray))]
theorem ty11_ok : TyOk Go.Proofs.Try.prog 11 ty11 :=
  TyOk.of (f := Go.Proofs.Try.t11) (z := (Go.Proofs.Try.t11.zero).getD .nilIface) (cs := (zeroS ty11.zero).getD []) Go.Proofs.Try.underlying11 (by kernel_rfl) (by kernel_rfl) ⟨by kernel_rfl, by kernel_rfl⟩ (by kernel_rfl) (by kernel_rfl) (by kernel_rfl) (by kernel_rfl) (by kernel_rfl)
noncomputable def ty12 : TyI where
  td := .int .u64
  size := 1
  bytes := 8
  zero := [.xs (.int .u64) 1 [0]]
theorem ty12_ok : TyOk Go.Proofs.Try.prog 12 ty12 :=
  TyOk.of (f := Go.Proofs.Try.t12) (z := (Go.Proofs.Try.t12.zero).getD .nilIface) (cs := (zeroS ty12.zero).getD []) Go.Proofs.Try.underlying12 (by kernel_rfl) (by kernel_rfl) ⟨by kernel_rfl, by kernel_rfl⟩ (by kernel_rfl) (by kernel_rfl) (by kernel_rfl) (by kernel_rfl) (by kernel_rfl)
noncomputable def ty13 : TyI where
  td := .st [(0, 9), (1, 12)]
  size := 2
  bytes := 24
  zero := [.one (.str (⟨#[]⟩ : ByteArray)), .xs (.int .u64) 1 [0]]
theorem ty13_ok : TyOk Go.Proofs.Try.prog 13 ty13 :=
  TyOk.of (f := Go.Proofs.Try.t13) (z := (Go.Proofs.Try.t13.zero).getD .nilIface) (cs := (zeroS ty13.zero).getD []) Go.Proofs.Try.underlying13 (by kernel_rfl) (by kernel_rfl) ⟨by kernel_rfl, by kernel_rfl⟩ (by kernel_rfl) (by kernel_rfl) (by kernel_rfl) (by kernel_rfl) (by kernel_rfl)
noncomputable def ty14 : TyI where
  td := .st [(0, 9), (1, 12)]
  size := 2
  bytes := 24
  zero := [.one (.str (⟨#[]⟩ : ByteArray)), .xs (.int .u64) 1 [0]]
theorem ty14_ok : TyOk Go.Proofs.Try.prog 14 ty14 :=
  TyOk.of (f := Go.Proofs.Try.t14) (z := (Go.Proofs.Try.t14.zero).getD .nilIface) (cs := (zeroS ty14.zero).getD []) Go.Proofs.Try.underlying14 (by kernel_rfl) (by kernel_rfl) ⟨by kernel_rfl, by kernel_rfl⟩ (by kernel_rfl) (by kernel_rfl) (by kernel_rfl) (by kernel_rfl) (by kernel_rfl)
noncomputable def ty15 : TyI where
  td := .ptr 108
  size := 1
  bytes := 8
  zero := [.one (.nilp)]
theorem ty15_ok : TyOk Go.Proofs.Try.prog 15 ty15 :=
  TyOk.of (f := Go.Proofs.Try.t15) (z := (Go.Proofs.Try.t15.zero).getD .nilIface) (cs := (zeroS ty15.zero).getD []) Go.Proofs.Try.underlying15 (by kernel_rfl) (by kernel_rfl) ⟨by kernel_rfl, by kernel_rfl⟩ (by kernel_rfl) (by kernel_rfl) (by kernel_rfl) (by kernel_rfl) (by kernel_rfl)
noncomputable def ty16 : TyI where
  td := .ptr 111
  size := 1
  bytes := 8
  zero := [.one (.nilp)]
theorem ty16_ok : TyOk Go.Proofs.Try.prog 16 ty16 :=
  TyOk.of (f := Go.Proofs.Try.t16) (z := (Go.Proofs.Try.t16.zero).getD .nilIface) (cs := (zeroS ty16.zero).getD []) Go.Proofs.Try.underlying16 (by kernel_rfl) (by kernel_rfl) ⟨by kernel_rfl, by kernel_rfl⟩ (by kernel_rfl) (by kernel_rfl) (by kernel_rfl) (by kernel_rfl) (by kernel_rfl)
noncomputable def ty17 : TyI where
  td := .ptr 119
  size := 1
  bytes := 8
  zero := [.one (.nilp)]
theorem ty17_ok : TyOk Go.Proofs.Try.prog 17 ty17 :=
  TyOk.of (f := Go.Proofs.Try.t17) (z := (Go.Proofs.Try.t17.zero).getD .nilIface) (cs := (zeroS ty17.zero).getD []) Go.Proofs.Try.underlying17 (by kernel_rfl) (by kernel_rfl) ⟨by kernel_rfl, by kernel_rfl⟩ (by kernel_rfl) (by kernel_rfl) (by kernel_rfl) (by kernel_rfl) (by kernel_rfl)
noncomputable def ty18 : TyI where
  td := .st [(0, 17)]
  size := 1
  bytes := 8
  zero := [.one (.nilp)]
theorem ty18_ok : TyOk Go.Proofs.Try.prog 18 ty18 :=
  TyOk.of (f := Go.Proofs.Try.t18) (z := (Go.Proofs.Try.t18.zero).getD .nilIface) (cs := (zeroS ty18.zero).getD []) Go.Proofs.Try.underlying18 (by kernel_rfl) (by kernel_rfl) ⟨by kernel_rfl, by kernel_rfl⟩ (by kernel_rfl) (by kernel_rfl) (by kernel_rfl) (by kernel_rfl) (by kernel_rfl)
noncomputable def ty19 : TyI where
  td := .st [(0, 17)]
  size := 1
  bytes := 8
  zero := [.one (.nilp)]
theorem ty19_ok : TyOk Go.Proofs.Try.prog 19 ty19 :=
  TyOk.of (f := Go.Proofs.Try.t19) (z := (Go.Proofs.Try.t19.zero).getD .nilIface) (cs := (zeroS ty19.zero).getD []) Go.Proofs.Try.underlying19 (by kernel_rfl) (by kernel_rfl) ⟨by kernel_rfl, by kernel_rfl⟩ (by kernel_rfl) (by kernel_rfl) (by kernel_rfl) (by kernel_rfl) (by kernel_rfl)
noncomputable def ty21 : TyI where
  td := .int .i32
  size := 1
  bytes := 4
  zero := [.xs (.int .i32) 1 [0]]
theorem ty21_ok : TyOk Go.Proofs.Try.prog 21 ty21 :=
  TyOk.of (f := Go.Proofs.Try.t21) (z := (Go.Proofs.Try.t21.zero).getD .nilIface) (cs := (zeroS ty21.zero).getD []) Go.Proofs.Try.underlying21 (by kernel_rfl) (by kernel_rfl) ⟨by kernel_rfl, by kernel_rfl⟩ (by kernel_rfl) (by kernel_rfl) (by kernel_rfl) (by kernel_rfl) (by kernel_rfl)
noncomputable def ty25 : TyI where
  td := .int .u32
  size := 1
  bytes := 4
  zero := [.xs (.int .u32) 1 [0]]
theorem ty25_ok : TyOk Go.Proofs.Try.prog 25 ty25 :=
  TyOk.of (f := Go.Proofs.Try.t25) (z := (Go.Proofs.Try.t25.zero).getD .nilIface) (cs := (zeroS ty25.zero).getD []) Go.Proofs.Try.underlying25 (by kernel_rfl) (by kernel_rfl) ⟨by kernel_rfl, by kernel_rfl⟩ (by kernel_rfl) (by kernel_rfl) (by kernel_rfl) (by kernel_rfl) (by kernel_rfl)
noncomputable def ty26 : TyI where
  td := .int .u64
  size := 1
  bytes := 8
  zero := [.xs (.int .u64) 1 [0]]
theorem ty26_ok : TyOk Go.Proofs.Try.prog 26 ty26 :=
  TyOk.of (f := Go.Proofs.Try.t26) (z := (Go.Proofs.Try.t26.zero).getD .nilIface) (cs := (zeroS ty26.zero).getD []) Go.Proofs.Try.underlying26 (by kernel_rfl) (by kernel_rfl) ⟨by kernel_rfl, by kernel_rfl⟩ (by kernel_rfl) (by kernel_rfl) (by kernel_rfl) (by kernel_rfl) (by kernel_rfl)
noncomputable def ty27 : TyI where
  td := .st [(0, 26), (1, 26)]
  size := 2
  bytes := 16
  zero := [.xs (.int .u64) 2 (List.replicate 2 0)]
theorem ty27_ok : TyOk Go.Proofs.Try.prog 27 ty27 :=
  TyOk.of (f := Go.Proofs.Try.t27) (z := (Go.Proofs.Try.t27.zero).getD .nilIface) (cs := (zeroS ty27.zero).getD []) Go.Proofs.Try.underlying27 (by kernel_rfl) (by kernel_rfl) ⟨by kernel_rfl, by kernel_rfl⟩ (by kernel_rfl) (by kernel_rfl) (by kernel_rfl) (by kernel_rfl) (by kernel_rfl)
noncomputable def ty28 : TyI where
  td := .st [(0, 26), (1, 26)]
  size := 2
  bytes := 16
  zero := [.xs (.int .u64) 2 (List.replicate 2 0)]
theorem ty28_ok : TyOk Go.Proofs.Try.prog 28 ty28 :=
  TyOk.of (f := Go.Proofs.Try.t28) (z := (Go.Proofs.Try.t28.zero).getD .nilIface) (cs := (zeroS ty28.zero).getD []) Go.Proofs.Try.underlying28 (by kernel_rfl) (by kernel_rfl) ⟨by kernel_rfl, by kernel_rfl⟩ (by kernel_rfl) (by kernel_rfl) (by kernel_rfl) (by kernel_rfl) (by kernel_rfl)
noncomputable def ty29 : TyI where
  td := .sl 5
  size := 1
  bytes := 24
  zero := [.one (.nilsl)]
theorem ty29_ok : TyOk Go.Proofs.Try.prog 29 ty29 :=
  TyOk.of (f := Go.Proofs.Try.t29) (z := (Go.Proofs.Try.t29.zero).getD .nilIface) (cs := (zeroS ty29.zero).getD []) Go.Proofs.Try.underlying29 (by kernel_rfl) (by kernel_rfl) ⟨by kernel_rfl, by kernel_rfl⟩ (by kernel_rfl) (by kernel_rfl) (by kernel_rfl) (by kernel_rfl) (by kernel_rfl)
noncomputable def ty30 : TyI where
  td := .st [(0, 3), (1, 3), (2, 3), (3, 25), (4, 25), (5, 28), (7, 3), (8, 3), (9, 29), (10, 29), (11, 29)]
  size := 12
  bytes := 136
  zero := [.xs (.int .i64) 1 [0], .xs (.int .i64) 1 [0], .xs (.int .i64) 1 [0], .xs (.int .u32) 1 [0], .xs (.int .u32) 1 [0], .xs (.int .u64) 2 (List.replicate 2 0), .xs (.int .i64) 1 [0], .xs (.int .i64) 1 [0], .one (.nilsl), .one (.nilsl), .one (.nilsl)]
theorem ty30_ok : TyOk Go.Proofs.Try.prog 30 ty30 :=
  TyOk.of (f := Go.Proofs.Try.t30) (z := (Go.Proofs.Try.t30.zero).getD .nilIface) (cs := (zeroS ty30.zero).getD []) Go.Proofs.Try.underlying30 (by kernel_rfl) (by kernel_rfl) ⟨by kernel_rfl, by kernel_rfl⟩ (by kernel_rfl) (by kernel_rfl) (by kernel_rfl) (by kernel_rfl) (by kernel_rfl)
noncomputable def ty31 : TyI where
  td := .st [(0, 3), (1, 3), (2, 3), (3, 25), (4, 25), (5, 28), (7, 3), (8, 3), (9, 29), (10, 29), (11, 29)]
  size := 12
  bytes := 136
  zero := [.xs (.int .i64) 1 [0], .xs (.int .i64) 1 [0], .xs (.int .i64) 1 [0], .xs (.int .u32) 1 [0], .xs (.int .u32) 1 [0], .xs (.int .u64) 2 (List.replicate 2 0), .xs (.int .i64) 1 [0], .xs (.int .i64) 1 [0], .one (.nilsl), .one (.nilsl), .one (.nilsl)]
theorem ty31_ok : TyOk Go.Proofs.Try.prog 31 ty31 :=
  TyOk.of (f := Go.Proofs.Try.t31) (z := (Go.Proofs.Try.t31.zero).getD .nilIface) (cs := (zeroS ty31.zero).getD []) Go.Proofs.Try.underlying31 (by kernel_rfl) (by kernel_rfl) ⟨by kernel_rfl, by kernel_rfl⟩ (by kernel_rfl) (by kernel_rfl) (by kernel_rfl) (by kernel_rfl) (by kernel_rfl)
noncomputable def ty33 : TyI where
  td := .int .i64
  size := 1
  bytes := 8
  zero := [.xs (.int .i64) 1 [0]]
theorem ty33_ok : TyOk Go.Proofs.Try.prog 33 ty33 :=
  TyOk.of (f := Go.Proofs.Try.t33) (z := (Go.Proofs.Try.t33.zero).getD .nilIface) (cs := (zeroS ty33.zero).getD []) Go.Proofs.Try.underlying33 (by kernel_rfl) (by kernel_rfl) ⟨by kernel_rfl, by kernel_rfl⟩ (by kernel_rfl) (by kernel_rfl) (by kernel_rfl) (by kernel_rfl) (by kernel_rfl)
noncomputable def ty42 : TyI where
  td := .sl 29
  size := 1
  bytes := 24
  zero := [.one (.nilsl)]
theorem ty42_ok : TyOk Go.Proofs.Try.prog 42 ty42 :=
  TyOk.of (f := Go.Proofs.Try.t42) (z := (Go.Proofs.Try.t42.zero).getD .nilIface) (cs := (zeroS ty42.zero).getD []) Go.Proofs.Try.underlying42 (by kernel_rfl) (by kernel_rfl) ⟨by kernel_rfl, by kernel_rfl⟩ (by kernel_rfl) (by kernel_rfl) (by kernel_rfl) (by kernel_rfl) (by kernel_rfl)
noncomputable def ty43 : TyI where
  td := .sl 4
  size := 1
  bytes := 24
  zero := [.one (.nilsl)]
theorem ty43_ok : TyOk Go.Proofs.Try.prog 43 ty43 :=
  TyOk.of (f := Go.Proofs.Try.t43) (z := (Go.Proofs.Try.t43.zero).getD .nilIface) (cs := (zeroS ty43.zero).getD []) Go.Proofs.Try.underlying43 (by kernel_rfl) (by kernel_rfl) ⟨by kernel_rfl, by kernel_rfl⟩ (by kernel_rfl) (by kernel_rfl) (by kernel_rfl) (by kernel_rfl) (by kernel_rfl)
noncomputable def ty52 : TyI where
  td := .arr 9 9
  size := 9
  bytes := 144
  zero := [.one (.str (⟨#[]⟩ : ByteArray)), .one (.str (⟨#[]⟩ : ByteArray)), .one (.str (⟨#[]⟩ : ByteArray)), .one (.str (⟨#[]⟩ : ByteArray)), .one (.str (⟨#[]⟩ : ByteArray)), .one (.str (⟨#[]⟩ : ByteArray)), .one (.str (⟨#[]⟩ : ByteArray)), .one (.str (⟨#[]⟩ : ByteArray)), .one (.str (⟨#[]⟩ : ByteArray))]
theorem ty52_ok : TyOk Go.Proofs.Try.prog 52 ty52 :=
  TyOk.of (f := Go.Proofs.Try.t52) (z := (Go.Proofs.Try.t52.zero).getD .nilIface) (cs := (zeroS ty52.zero).getD []) Go.Proofs.Try.underlying52 (by kernel_rfl) (by kernel_rfl) ⟨by kernel_rfl, by kernel_rfl⟩ (by kernel_rfl) (by kernel_rfl) (by kernel_rfl) (by kernel_rfl) (by kernel_rfl)
noncomputable def ty53 : TyI where
  td := .sl 9
  size := 1
  bytes := 24
  zero := [.one (.nilsl)]
theorem ty53_ok : TyOk Go.Proofs.Try.prog 53 ty53 :=
  TyOk.of (f := Go.Proofs.Try.t53) (z := (Go.Proofs.Try.t53.zero).getD .nilIface) (cs := (zeroS ty53.zero).getD []) Go.Proofs.Try.underlying53 (by kernel_rfl) (by kernel_rfl) ⟨by kernel_rfl, by kernel_rfl⟩ (by kernel_rfl) (by kernel_rfl) (by kernel_rfl) (by kernel_rfl) (by kernel_rfl)
noncomputable def ty63 : TyI where
  td := .st [(0, 33)]
  size := 1
  bytes := 8
  zero := [.xs (.int .i64) 1 [0]]
theorem ty63_ok : TyOk Go.Proofs.Try.prog 63 ty63 :=
  TyOk.of (f := Go.Proofs.Try.t63) (z := (Go.Proofs.Try.t63.zero).getD .nilIface) (cs := (zeroS ty63.zero).getD []) Go.Proofs.Try.underlying63 (by kernel_rfl) (by kernel_rfl) ⟨by kernel_rfl, by kernel_rfl⟩ (by kernel_rfl) (by kernel_rfl) (by kernel_rfl) (by kernel_rfl) (by kernel_rfl)
noncomputable def ty64 : TyI where
  td := .st [(0, 33)]
  size := 1
  bytes := 8
  zero := [.xs (.int .i64) 1 [0]]
theorem ty64_ok : TyOk Go.Proofs.Try.prog 64 ty64 :=
  TyOk.of (f := Go.Proofs.Try.t64) (z := (Go.Proofs.Try.t64.zero).getD .nilIface) (cs := (zeroS ty64.zero).getD []) Go.Proofs.Try.underlying64 (by kernel_rfl) (by kernel_rfl) ⟨by kernel_rfl, by kernel_rfl⟩ (by kernel_rfl) (by kernel_rfl) (by kernel_rfl) (by kernel_rfl) (by kernel_rfl)
noncomputable def ty65 : TyI where
  td := .ptr 67
  size := 1
  bytes := 8
  zero := [.one (.nilp)]
theorem ty65_ok : TyOk Go.Proofs.Try.prog 65 ty65 :=
  TyOk.of (f := Go.Proofs.Try.t65) (z := (Go.Proofs.Try.t65.zero).getD .nilIface) (cs := (zeroS ty65.zero).getD []) Go.Proofs.Try.underlying65 (by kernel_rfl) (by kernel_rfl) ⟨by kernel_rfl, by kernel_rfl⟩ (by kernel_rfl) (by kernel_rfl) (by kernel_rfl) (by kernel_rfl) (by kernel_rfl)
noncomputable def ty66 : TyI where
  td := .st [(0, 29)]
  size := 1
  bytes := 24
  zero := [.one (.nilsl)]
theorem ty66_ok : TyOk Go.Proofs.Try.prog 66 ty66 :=
  TyOk.of (f := Go.Proofs.Try.t66) (z := (Go.Proofs.Try.t66.zero).getD .nilIface) (cs := (zeroS ty66.zero).getD []) Go.Proofs.Try.underlying66 (by kernel_rfl) (by kernel_rfl) ⟨by kernel_rfl, by kernel_rfl⟩ (by kernel_rfl) (by kernel_rfl) (by kernel_rfl) (by kernel_rfl) (by kernel_rfl)
noncomputable def ty67 : TyI where
  td := .st [(0, 29)]
  size := 1
  bytes := 24
  zero := [.one (.nilsl)]
theorem ty67_ok : TyOk Go.Proofs.Try.prog 67 ty67 :=
  TyOk.of (f := Go.Proofs.Try.t67) (z := (Go.Proofs.Try.t67.zero).getD .nilIface) (cs := (zeroS ty67.zero).getD []) Go.Proofs.Try.underlying67 (by kernel_rfl) (by kernel_rfl) ⟨by kernel_rfl, by kernel_rfl⟩ (by kernel_rfl) (by kernel_rfl) (by kernel_rfl) (by kernel_rfl) (by kernel_rfl)
noncomputable def ty69 : TyI where
  td := .sl 73
  size := 1
  bytes := 24
  zero := [.one (.nilsl)]
theorem ty69_ok : TyOk Go.Proofs.Try.prog 69 ty69 :=
  TyOk.of (f := Go.Proofs.Try.t69) (z := (Go.Proofs.Try.t69.zero).getD .nilIface) (cs := (zeroS ty69.zero).getD []) Go.Proofs.Try.underlying69 (by kernel_rfl) (by kernel_rfl) ⟨by kernel_rfl, by kernel_rfl⟩ (by kernel_rfl) (by kernel_rfl) (by kernel_rfl) (by kernel_rfl) (by kernel_rfl)
noncomputable def ty71 : TyI where
  td := .ptr 31
  size := 1
  bytes := 8
  zero := [.one (.nilp)]
theorem ty71_ok : TyOk Go.Proofs.Try.prog 71 ty71 :=
  TyOk.of (f := Go.Proofs.Try.t71) (z := (Go.Proofs.Try.t71.zero).getD .nilIface) (cs := (zeroS ty71.zero).getD []) Go.Proofs.Try.underlying71 (by kernel_rfl) (by kernel_rfl) ⟨by kernel_rfl, by kernel_rfl⟩ (by kernel_rfl) (by kernel_rfl) (by kernel_rfl) (by kernel_rfl) (by kernel_rfl)
noncomputable def ty73 : TyI where
  td := .other
  size := 1
  bytes := 16
  zero := [.one (.nilif)]
theorem ty73_ok : TyOk Go.Proofs.Try.prog 73 ty73 :=
  TyOk.of (f := Go.Proofs.Try.t73) (z := (Go.Proofs.Try.t73.zero).getD .nilIface) (cs := (zeroS ty73.zero).getD []) Go.Proofs.Try.underlying73 (by kernel_rfl) (by kernel_rfl) ⟨by kernel_rfl, by kernel_rfl⟩ (by kernel_rfl) (by kernel_rfl) (by kernel_rfl) (by kernel_rfl) (by kernel_rfl)
noncomputable def ty75 : TyI where
  td := .ptr 77
  size := 1
  bytes := 8
  zero := [.one (.nilp)]
theorem ty75_ok : TyOk Go.Proofs.Try.prog 75 ty75 :=
  TyOk.of (f := Go.Proofs.Try.t75) (z := (Go.Proofs.Try.t75.zero).getD .nilIface) (cs := (zeroS ty75.zero).getD []) Go.Proofs.Try.underlying75 (by kernel_rfl) (by kernel_rfl) ⟨by kernel_rfl, by kernel_rfl⟩ (by kernel_rfl) (by kernel_rfl) (by kernel_rfl) (by kernel_rfl) (by kernel_rfl)
noncomputable def ty76 : TyI where
  td := .st [(0, 29), (1, 33)]
  size := 2
  bytes := 32
  zero := [.one (.nilsl), .xs (.int .i64) 1 [0]]
theorem ty76_ok : TyOk Go.Proofs.Try.prog 76 ty76 :=
  TyOk.of (f := Go.Proofs.Try.t76) (z := (Go.Proofs.Try.t76.zero).getD .nilIface) (cs := (zeroS ty76.zero).getD []) Go.Proofs.Try.underlying76 (by kernel_rfl) (by kernel_rfl) ⟨by kernel_rfl, by kernel_rfl⟩ (by kernel_rfl) (by kernel_rfl) (by kernel_rfl) (by kernel_rfl) (by kernel_rfl)
noncomputable def ty77 : TyI where
  td := .st [(0, 29), (1, 33)]
  size := 2
  bytes := 32
  zero := [.one (.nilsl), .xs (.int .i64) 1 [0]]
theorem ty77_ok : TyOk Go.Proofs.Try.prog 77 ty77 :=
  TyOk.of (f := Go.Proofs.Try.t77) (z := (Go.Proofs.Try.t77.zero).getD .nilIface) (cs := (zeroS ty77.zero).getD []) Go.Proofs.Try.underlying77 (by kernel_rfl) (by kernel_rfl) ⟨by kernel_rfl, by kernel_rfl⟩ (by kernel_rfl) (by kernel_rfl) (by kernel_rfl) (by kernel_rfl) (by kernel_rfl)
noncomputable def ty79 : TyI where
  td := .ptr 29
  size := 1
  bytes := 8
  zero := [.one (.nilp)]
theorem ty79_ok : TyOk Go.Proofs.Try.prog 79 ty79 :=
  TyOk.of (f := Go.Proofs.Try.t79) (z := (Go.Proofs.Try.t79.zero).getD .nilIface) (cs := (zeroS ty79.zero).getD []) Go.Proofs.Try.underlying79 (by kernel_rfl) (by kernel_rfl) ⟨by kernel_rfl, by kernel_rfl⟩ (by kernel_rfl) (by kernel_rfl) (by kernel_rfl) (by kernel_rfl) (by kernel_rfl)
noncomputable def ty80 : TyI where
  td := .st [(0, 79), (1, 3)]
  size := 2
  bytes := 16
  zero := [.one (.nilp), .xs (.int .i64) 1 [0]]
theorem ty80_ok : TyOk Go.Proofs.Try.prog 80 ty80 :=
  TyOk.of (f := Go.Proofs.Try.t80) (z := (Go.Proofs.Try.t80.zero).getD .nilIface) (cs := (zeroS ty80.zero).getD []) Go.Proofs.Try.underlying80 (by kernel_rfl) (by kernel_rfl) ⟨by kernel_rfl, by kernel_rfl⟩ (by kernel_rfl) (by kernel_rfl) (by kernel_rfl) (by kernel_rfl) (by kernel_rfl)
noncomputable def ty81 : TyI where
  td := .st [(0, 79), (1, 3)]
  size := 2
  bytes := 16
  zero := [.one (.nilp), .xs (.int .i64) 1 [0]]
theorem ty81_ok : TyOk Go.Proofs.Try.prog 81 ty81 :=
  TyOk.of (f := Go.Proofs.Try.t81) (z := (Go.Proofs.Try.t81.zero).getD .nilIface) (cs := (zeroS ty81.zero).getD []) Go.Proofs.Try.underlying81 (by kernel_rfl) (by kernel_rfl) ⟨by kernel_rfl, by kernel_rfl⟩ (by kernel_rfl) (by kernel_rfl) (by kernel_rfl) (by kernel_rfl) (by kernel_rfl)
noncomputable def ty84 : TyI where
  td := .int .u16
  size := 1
  bytes := 2
  zero := [.xs (.int .u16) 1 [0]]
theorem ty84_ok : TyOk Go.Proofs.Try.prog 84 ty84 :=
  TyOk.of (f := Go.Proofs.Try.t84) (z := (Go.Proofs.Try.t84.zero).getD .nilIface) (cs := (zeroS ty84.zero).getD []) Go.Proofs.Try.underlying84 (by kernel_rfl) (by kernel_rfl) ⟨by kernel_rfl, by kernel_rfl⟩ (by kernel_rfl) (by kernel_rfl) (by kernel_rfl) (by kernel_rfl) (by kernel_rfl)
noncomputable def ty90 : TyI where
  td := .sl 28
  size := 1
  bytes := 24
  zero := [.one (.nilsl)]
theorem ty90_ok : TyOk Go.Proofs.Try.prog 90 ty90 :=
  TyOk.of (f := Go.Proofs.Try.t90) (z := (Go.Proofs.Try.t90.zero).getD .nilIface) (cs := (zeroS ty90.zero).getD []) Go.Proofs.Try.underlying90 (by kernel_rfl) (by kernel_rfl) ⟨by kernel_rfl, by kernel_rfl⟩ (by kernel_rfl) (by kernel_rfl) (by kernel_rfl) (by kernel_rfl) (by kernel_rfl)
noncomputable def ty93 : TyI where
  td := .ptr 3
  size := 1
  bytes := 8
  zero := [.one (.nilp)]
theorem ty93_ok : TyOk Go.Proofs.Try.prog 93 ty93 :=
  TyOk.of (f := Go.Proofs.Try.t93) (z := (Go.Proofs.Try.t93.zero).getD .nilIface) (cs := (zeroS ty93.zero).getD []) Go.Proofs.Try.underlying93 (by kernel_rfl) (by kernel_rfl) ⟨by kernel_rfl, by kernel_rfl⟩ (by kernel_rfl) (by kernel_rfl) (by kernel_rfl) (by kernel_rfl) (by kernel_rfl)
noncomputable def ty94 : TyI where
  td := .st [(0, 93)]
  size := 1
  bytes := 8
  zero := [.one (.nilp)]
theorem ty94_ok : TyOk Go.Proofs.Try.prog 94 ty94 :=
  TyOk.of (f := Go.Proofs.Try.t94) (z := (Go.Proofs.Try.t94.zero).getD .nilIface) (cs := (zeroS ty94.zero).getD []) Go.Proofs.Try.underlying94 (by kernel_rfl) (by kernel_rfl) ⟨by kernel_rfl, by kernel_rfl⟩ (by kernel_rfl) (by kernel_rfl) (by kernel_rfl) (by kernel_rfl) (by kernel_rfl)
noncomputable def ty95 : TyI where
  td := .st [(0, 93)]
  size := 1
  bytes := 8
  zero := [.one (.nilp)]
theorem ty95_ok : TyOk Go.Proofs.Try.prog 95 ty95 :=
  TyOk.of (f := Go.Proofs.Try.t95) (z := (Go.Proofs.Try.t95.zero).getD .nilIface) (cs := (zeroS ty95.zero).getD []) Go.Proofs.Try.underlying95 (by kernel_rfl) (by kernel_rfl) ⟨by kernel_rfl, by kernel_rfl⟩ (by kernel_rfl) (by kernel_rfl) (by kernel_rfl) (by kernel_rfl) (by kernel_rfl)
noncomputable def ty96 : TyI where
  td := .ptr 25
  size := 1
  bytes := 8
  zero := [.one (.nilp)]
theorem ty96_ok : TyOk Go.Proofs.Try.prog 96 ty96 :=
  TyOk.of (f := Go.Proofs.Try.t96) (z := (Go.Proofs.Try.t96.zero).getD .nilIface) (cs := (zeroS ty96.zero).getD []) Go.Proofs.Try.underlying96 (by kernel_rfl) (by kernel_rfl) ⟨by kernel_rfl, by kernel_rfl⟩ (by kernel_rfl) (by kernel_rfl) (by kernel_rfl) (by kernel_rfl) (by kernel_rfl)
noncomputable def ty97 : TyI where
  td := .st [(0, 96)]
  size := 1
  bytes := 8
  zero := [.one (.nilp)]
theorem ty97_ok : TyOk Go.Proofs.Try.prog 97 ty97 :=
  TyOk.of (f := Go.Proofs.Try.t97) (z := (Go.Proofs.Try.t97.zero).getD .nilIface) (cs := (zeroS ty97.zero).getD []) Go.Proofs.Try.underlying97 (by kernel_rfl) (by kernel_rfl) ⟨by kernel_rfl, by kernel_rfl⟩ (by kernel_rfl) (by kernel_rfl) (by kernel_rfl) (by kernel_rfl) (by kernel_rfl)
noncomputable def ty98 : TyI where
  td := .st [(0, 96)]
  size := 1
  bytes := 8
  zero := [.one (.nilp)]
theorem ty98_ok : TyOk Go.Proofs.Try.prog 98 ty98 :=
  TyOk.of (f := Go.Proofs.Try.t98) (z := (Go.Proofs.Try.t98.zero).getD .nilIface) (cs := (zeroS ty98.zero).getD []) Go.Proofs.Try.underlying98 (by kernel_rfl) (by kernel_rfl) ⟨by kernel_rfl, by kernel_rfl⟩ (by kernel_rfl) (by kernel_rfl) (by kernel_rfl) (by kernel_rfl) (by kernel_rfl)
noncomputable def ty99 : TyI where
  td := .ptr 26
  size := 1
  bytes := 8
  zero := [.one (.nilp)]
theorem ty99_ok : TyOk Go.Proofs.Try.prog 99 ty99 :=
  TyOk.of (f := Go.Proofs.Try.t99) (z := (Go.Proofs.Try.t99.zero).getD .nilIface) (cs := (zeroS ty99.zero).getD []) Go.Proofs.Try.underlying99 (by kernel_rfl) (by kernel_rfl) ⟨by kernel_rfl, by kernel_rfl⟩ (by kernel_rfl) (by kernel_rfl) (by kernel_rfl) (by kernel_rfl) (by kernel_rfl)
noncomputable def ty100 : TyI where
  td := .st [(0, 99)]
  size := 1
  bytes := 8
  zero := [.one (.nilp)]
theorem ty100_ok : TyOk Go.Proofs.Try.prog 100 ty100 :=
  TyOk.of (f := Go.Proofs.Try.t100) (z := (Go.Proofs.Try.t100.zero).getD .nilIface) (cs := (zeroS ty100.zero).getD []) Go.Proofs.Try.underlying100 (by kernel_rfl) (by kernel_rfl) ⟨by kernel_rfl, by kernel_rfl⟩ (by kernel_rfl) (by kernel_rfl) (by kernel_rfl) (by kernel_rfl) (by kernel_rfl)
noncomputable def ty101 : TyI where
  td := .st [(0, 99)]
  size := 1
  bytes := 8
  zero := [.one (.nilp)]
theorem ty101_ok : TyOk Go.Proofs.Try.prog 101 ty101 :=
  TyOk.of (f := Go.Proofs.Try.t101) (z := (Go.Proofs.Try.t101.zero).getD .nilIface) (cs := (zeroS ty101.zero).getD []) Go.Proofs.Try.underlying101 (by kernel_rfl) (by kernel_rfl) ⟨by kernel_rfl, by kernel_rfl⟩ (by kernel_rfl) (by kernel_rfl) (by kernel_rfl) (by kernel_rfl) (by kernel_rfl)
noncomputable def ty102 : TyI where
  td := .st [(0, 93)]
  size := 1
  bytes := 8
  zero := [.one (.nilp)]
theorem ty102_ok : TyOk Go.Proofs.Try.prog 102 ty102 :=
  TyOk.of (f := Go.Proofs.Try.t102) (z := (Go.Proofs.Try.t102.zero).getD .nilIface) (cs := (zeroS ty102.zero).getD []) Go.Proofs.Try.underlying102 (by kernel_rfl) (by kernel_rfl) ⟨by kernel_rfl, by kernel_rfl⟩ (by kernel_rfl) (by kernel_rfl) (by kernel_rfl) (by kernel_rfl) (by kernel_rfl)
noncomputable def ty105 : TyI where
  td := .int .u64
  size := 1
  bytes := 8
  zero := [.xs (.int .u64) 1 [0]]
theorem ty105_ok : TyOk Go.Proofs.Try.prog 105 ty105 :=
  TyOk.of (f := Go.Proofs.Try.t105) (z := (Go.Proofs.Try.t105.zero).getD .nilIface) (cs := (zeroS ty105.zero).getD []) Go.Proofs.Try.underlying105 (by kernel_rfl) (by kernel_rfl) ⟨by kernel_rfl, by kernel_rfl⟩ (by kernel_rfl) (by kernel_rfl) (by kernel_rfl) (by kernel_rfl) (by kernel_rfl)
noncomputable def ty107 : TyI where
  td := .st [(0, 17), (1, 17), (2, 17), (3, 9)]
  size := 4
  bytes := 40
  zero := [.one (.nilp), .one (.nilp), .one (.nilp), .one (.str (⟨#[]⟩ : ByteArray))]
theorem ty107_ok : TyOk Go.Proofs.Try.prog 107 ty107 :=
  TyOk.of (f := Go.Proofs.Try.t107) (z := (Go.Proofs.Try.t107.zero).getD .nilIface) (cs := (zeroS ty107.zero).getD []) Go.Proofs.Try.underlying107 (by kernel_rfl) (by kernel_rfl) ⟨by kernel_rfl, by kernel_rfl⟩ (by kernel_rfl) (by kernel_rfl) (by kernel_rfl) (by kernel_rfl) (by kernel_rfl)
noncomputable def ty108 : TyI where
  td := .st [(0, 17), (1, 17), (2, 17), (3, 9)]
  size := 4
  bytes := 40
  zero := [.one (.nilp), .one (.nilp), .one (.nilp), .one (.str (⟨#[]⟩ : ByteArray))]
theorem ty108_ok : TyOk Go.Proofs.Try.prog 108 ty108 :=
  TyOk.of (f := Go.Proofs.Try.t108) (z := (Go.Proofs.Try.t108.zero).getD .nilIface) (cs := (zeroS ty108.zero).getD []) Go.Proofs.Try.underlying108 (by kernel_rfl) (by kernel_rfl) ⟨by kernel_rfl, by kernel_rfl⟩ (by kernel_rfl) (by kernel_rfl) (by kernel_rfl) (by kernel_rfl) (by kernel_rfl)
noncomputable def ty109 : TyI where
  td := .arr 0 16
  size := 0
  bytes := 0
  zero := []
theorem ty109_ok : TyOk Go.Proofs.Try.prog 109 ty109 :=
  TyOk.of (f := Go.Proofs.Try.t109) (z := (Go.Proofs.Try.t109.zero).getD .nilIface) (cs := (zeroS ty109.zero).getD []) Go.Proofs.Try.underlying109 (by kernel_rfl) (by kernel_rfl) ⟨by kernel_rfl, by kernel_rfl⟩ (by kernel_rfl) (by kernel_rfl) (by kernel_rfl) (by kernel_rfl) (by kernel_rfl)
noncomputable def ty110 : TyI where
  td := .st [(0, 109)]
  size := 0
  bytes := 0
  zero := []
theorem ty110_ok : TyOk Go.Proofs.Try.prog 110 ty110 :=
  TyOk.of (f := Go.Proofs.Try.t110) (z := (Go.Proofs.Try.t110.zero).getD .nilIface) (cs := (zeroS ty110.zero).getD []) Go.Proofs.Try.underlying110 (by kernel_rfl) (by kernel_rfl) ⟨by kernel_rfl, by kernel_rfl⟩ (by kernel_rfl) (by kernel_rfl) (by kernel_rfl) (by kernel_rfl) (by kernel_rfl)
noncomputable def ty111 : TyI where
  td := .st [(0, 109)]
  size := 0
  bytes := 0
  zero := []
theorem ty111_ok : TyOk Go.Proofs.Try.prog 111 ty111 :=
  TyOk.of (f := Go.Proofs.Try.t111) (z := (Go.Proofs.Try.t111.zero).getD .nilIface) (cs := (zeroS ty111.zero).getD []) Go.Proofs.Try.underlying111 (by kernel_rfl) (by kernel_rfl) ⟨by kernel_rfl, by kernel_rfl⟩ (by kernel_rfl) (by kernel_rfl) (by kernel_rfl) (by kernel_rfl) (by kernel_rfl)
noncomputable def ty112 : TyI where
  td := .int .u8
  size := 1
  bytes := 1
  zero := [.xs (.int .u8) 1 [0]]
theorem ty112_ok : TyOk Go.Proofs.Try.prog 112 ty112 :=
  TyOk.of (f := Go.Proofs.Try.t112) (z := (Go.Proofs.Try.t112.zero).getD .nilIface) (cs := (zeroS ty112.zero).getD []) Go.Proofs.Try.underlying112 (by kernel_rfl) (by kernel_rfl) ⟨by kernel_rfl, by kernel_rfl⟩ (by kernel_rfl) (by kernel_rfl) (by kernel_rfl) (by kernel_rfl) (by kernel_rfl)
noncomputable def ty113 : TyI where
  td := .int .u8
  size := 1
  bytes := 1
  zero := [.xs (.int .u8) 1 [0]]
theorem ty113_ok : TyOk Go.Proofs.Try.prog 113 ty113 :=
  TyOk.of (f := Go.Proofs.Try.t113) (z := (Go.Proofs.Try.t113.zero).getD .nilIface) (cs := (zeroS ty113.zero).getD []) Go.Proofs.Try.underlying113 (by kernel_rfl) (by kernel_rfl) ⟨by kernel_rfl, by kernel_rfl⟩ (by kernel_rfl) (by kernel_rfl) (by kernel_rfl) (by kernel_rfl) (by kernel_rfl)
noncomputable def ty115 : TyI where
  td := .ptr 5
  size := 1
  bytes := 8
  zero := [.one (.nilp)]
theorem ty115_ok : TyOk Go.Proofs.Try.prog 115 ty115 :=
  TyOk.of (f := Go.Proofs.Try.t115) (z := (Go.Proofs.Try.t115.zero).getD .nilIface) (cs := (zeroS ty115.zero).getD []) Go.Proofs.Try.underlying115 (by kernel_rfl) (by kernel_rfl) ⟨by kernel_rfl, by kernel_rfl⟩ (by kernel_rfl) (by kernel_rfl) (by kernel_rfl) (by kernel_rfl) (by kernel_rfl)
noncomputable def ty116 : TyI where
  td := .int .i32
  size := 1
  bytes := 4
  zero := [.xs (.int .i32) 1 [0]]
theorem ty116_ok : TyOk Go.Proofs.Try.prog 116 ty116 :=
  TyOk.of (f := Go.Proofs.Try.t116) (z := (Go.Proofs.Try.t116.zero).getD .nilIface) (cs := (zeroS ty116.zero).getD []) Go.Proofs.Try.underlying116 (by kernel_rfl) (by kernel_rfl) ⟨by kernel_rfl, by kernel_rfl⟩ (by kernel_rfl) (by kernel_rfl) (by kernel_rfl) (by kernel_rfl) (by kernel_rfl)
noncomputable def ty117 : TyI where
  td := .int .i32
  size := 1
  bytes := 4
  zero := [.xs (.int .i32) 1 [0]]
theorem ty117_ok : TyOk Go.Proofs.Try.prog 117 ty117 :=
  TyOk.of (f := Go.Proofs.Try.t117) (z := (Go.Proofs.Try.t117.zero).getD .nilIface) (cs := (zeroS ty117.zero).getD []) Go.Proofs.Try.underlying117 (by kernel_rfl) (by kernel_rfl) ⟨by kernel_rfl, by kernel_rfl⟩ (by kernel_rfl) (by kernel_rfl) (by kernel_rfl) (by kernel_rfl) (by kernel_rfl)
theorem steq28_ok : StEq Go.Proofs.Try.prog 28 .u64 2 := StEq.of (by kernel_rfl) (by kernel_rfl) (by kernel_rfl) (by kernel_rfl) (by kernel_rfl)
theorem enters_law21_MsgKinds : Enters Go.Proofs.Try.prog 3 := ⟨Go.Proofs.Try.f3, Go.Proofs.Try.func3, by kernel_rfl, by kernel_rfl⟩
theorem enters_law21_MsgPuts : Enters Go.Proofs.Try.prog 4 := ⟨Go.Proofs.Try.f4, Go.Proofs.Try.func4, by kernel_rfl, by kernel_rfl⟩
theorem enters_law21_MsgChecks : Enters Go.Proofs.Try.prog 5 := ⟨Go.Proofs.Try.f5, Go.Proofs.Try.func5, by kernel_rfl, by kernel_rfl⟩
theorem enters_law21_MsgMarks : Enters Go.Proofs.Try.prog 6 := ⟨Go.Proofs.Try.f6, Go.Proofs.Try.func6, by kernel_rfl, by kernel_rfl⟩
theorem enters_law21_MsgWords : Enters Go.Proofs.Try.prog 7 := ⟨Go.Proofs.Try.f7, Go.Proofs.Try.func7, by kernel_rfl, by kernel_rfl⟩
theorem enters_law21_MsgGets : Enters Go.Proofs.Try.prog 8 := ⟨Go.Proofs.Try.f8, Go.Proofs.Try.func8, by kernel_rfl, by kernel_rfl⟩
theorem enters_law21_MsgBack : Enters Go.Proofs.Try.prog 9 := ⟨Go.Proofs.Try.f9, Go.Proofs.Try.func9, by kernel_rfl, by kernel_rfl⟩
theorem enters_law21_MsgApart : Enters Go.Proofs.Try.prog 10 := ⟨Go.Proofs.Try.f10, Go.Proofs.Try.func10, by kernel_rfl, by kernel_rfl⟩
theorem enters_law21_live : Enters Go.Proofs.Try.prog 11 := ⟨Go.Proofs.Try.f11, Go.Proofs.Try.func11, by kernel_rfl, by kernel_rfl⟩
theorem enters_msg_Has : Enters Go.Proofs.Try.prog 12 := ⟨Go.Proofs.Try.f12, Go.Proofs.Try.func12, by kernel_rfl, by kernel_rfl⟩
theorem enters_ref21_Has : Enters Go.Proofs.Try.prog 13 := ⟨Go.Proofs.Try.f13, Go.Proofs.Try.func13, by kernel_rfl, by kernel_rfl⟩
theorem enters_msg_Name : Enters Go.Proofs.Try.prog 14 := ⟨Go.Proofs.Try.f14, Go.Proofs.Try.func14, by kernel_rfl, by kernel_rfl⟩
theorem enters_ref21_Name : Enters Go.Proofs.Try.prog 15 := ⟨Go.Proofs.Try.f15, Go.Proofs.Try.func15, by kernel_rfl, by kernel_rfl⟩
theorem enters_law21_big : Enters Go.Proofs.Try.prog 16 := ⟨Go.Proofs.Try.f16, Go.Proofs.Try.func16, by kernel_rfl, by kernel_rfl⟩
theorem enters_msg_Put : Enters Go.Proofs.Try.prog 17 := ⟨Go.Proofs.Try.f17, Go.Proofs.Try.func17, by kernel_rfl, by kernel_rfl⟩
theorem enters_ref21_Put : Enters Go.Proofs.Try.prog 18 := ⟨Go.Proofs.Try.f18, Go.Proofs.Try.func18, by kernel_rfl, by kernel_rfl⟩
theorem enters_ref01_Equal : Enters Go.Proofs.Try.prog 19 := ⟨Go.Proofs.Try.f19, Go.Proofs.Try.func19, by kernel_rfl, by kernel_rfl⟩
theorem enters_msg_Words : Enters Go.Proofs.Try.prog 20 := ⟨Go.Proofs.Try.f20, Go.Proofs.Try.func20, by kernel_rfl, by kernel_rfl⟩
theorem enters_ref21_Words : Enters Go.Proofs.Try.prog 21 := ⟨Go.Proofs.Try.f21, Go.Proofs.Try.func21, by kernel_rfl, by kernel_rfl⟩
theorem enters_msg_Missing : Enters Go.Proofs.Try.prog 22 := ⟨Go.Proofs.Try.f22, Go.Proofs.Try.func22, by kernel_rfl, by kernel_rfl⟩
theorem enters_ref21_Missing : Enters Go.Proofs.Try.prog 23 := ⟨Go.Proofs.Try.f23, Go.Proofs.Try.func23, by kernel_rfl, by kernel_rfl⟩
theorem enters_msg_Clone : Enters Go.Proofs.Try.prog 24 := ⟨Go.Proofs.Try.f24, Go.Proofs.Try.func24, by kernel_rfl, by kernel_rfl⟩
theorem enters_msg_Check : Enters Go.Proofs.Try.prog 25 := ⟨Go.Proofs.Try.f25, Go.Proofs.Try.func25, by kernel_rfl, by kernel_rfl⟩
theorem enters_ref21_Check : Enters Go.Proofs.Try.prog 26 := ⟨Go.Proofs.Try.f26, Go.Proofs.Try.func26, by kernel_rfl, by kernel_rfl⟩
theorem enters_msg_Same : Enters Go.Proofs.Try.prog 27 := ⟨Go.Proofs.Try.f27, Go.Proofs.Try.func27, by kernel_rfl, by kernel_rfl⟩
theorem enters_ref21_Same : Enters Go.Proofs.Try.prog 28 := ⟨Go.Proofs.Try.f28, Go.Proofs.Try.func28, by kernel_rfl, by kernel_rfl⟩
theorem enters_msg_Marks : Enters Go.Proofs.Try.prog 29 := ⟨Go.Proofs.Try.f29, Go.Proofs.Try.func29, by kernel_rfl, by kernel_rfl⟩
theorem enters_ref21_Marks : Enters Go.Proofs.Try.prog 30 := ⟨Go.Proofs.Try.f30, Go.Proofs.Try.func30, by kernel_rfl, by kernel_rfl⟩
theorem enters_ref01_Join : Enters Go.Proofs.Try.prog 31 := ⟨Go.Proofs.Try.f31, Go.Proofs.Try.func31, by kernel_rfl, by kernel_rfl⟩
theorem enters_msg_Get : Enters Go.Proofs.Try.prog 32 := ⟨Go.Proofs.Try.f32, Go.Proofs.Try.func32, by kernel_rfl, by kernel_rfl⟩
theorem enters_ref21_Get : Enters Go.Proofs.Try.prog 33 := ⟨Go.Proofs.Try.f33, Go.Proofs.Try.func33, by kernel_rfl, by kernel_rfl⟩
theorem enters_msg_form : Enters Go.Proofs.Try.prog 34 := ⟨Go.Proofs.Try.f34, Go.Proofs.Try.func34, by kernel_rfl, by kernel_rfl⟩
theorem enters_ref21_form : Enters Go.Proofs.Try.prog 35 := ⟨Go.Proofs.Try.f35, Go.Proofs.Try.func35, by kernel_rfl, by kernel_rfl⟩
theorem enters_msg_has : Enters Go.Proofs.Try.prog 36 := ⟨Go.Proofs.Try.f36, Go.Proofs.Try.func36, by kernel_rfl, by kernel_rfl⟩
theorem enters_octet_Join : Enters Go.Proofs.Try.prog 37 := ⟨Go.Proofs.Try.f37, Go.Proofs.Try.func37, by kernel_rfl, by kernel_rfl⟩
theorem enters_ref21_has : Enters Go.Proofs.Try.prog 38 := ⟨Go.Proofs.Try.f38, Go.Proofs.Try.func38, by kernel_rfl, by kernel_rfl⟩
theorem enters_slices_Indexbool_bool : Enters Go.Proofs.Try.prog 39 := ⟨Go.Proofs.Try.f39, Go.Proofs.Try.func39, by kernel_rfl, by kernel_rfl⟩
theorem enters_octet_Bits : Enters Go.Proofs.Try.prog 40 := ⟨Go.Proofs.Try.f40, Go.Proofs.Try.func40, by kernel_rfl, by kernel_rfl⟩
theorem enters_ref01_Bits : Enters Go.Proofs.Try.prog 41 := ⟨Go.Proofs.Try.f41, Go.Proofs.Try.func41, by kernel_rfl, by kernel_rfl⟩
theorem enters_slices_Clonebyte_byte : Enters Go.Proofs.Try.prog 42 := ⟨Go.Proofs.Try.f42, Go.Proofs.Try.func42, by kernel_rfl, by kernel_rfl⟩
theorem enters_msg_device : Enters Go.Proofs.Try.prog 43 := ⟨Go.Proofs.Try.f43, Go.Proofs.Try.func43, by kernel_rfl, by kernel_rfl⟩
theorem enters_msg_ranged : Enters Go.Proofs.Try.prog 44 := ⟨Go.Proofs.Try.f44, Go.Proofs.Try.func44, by kernel_rfl, by kernel_rfl⟩
theorem enters_msg_parted : Enters Go.Proofs.Try.prog 45 := ⟨Go.Proofs.Try.f45, Go.Proofs.Try.func45, by kernel_rfl, by kernel_rfl⟩
theorem enters_msg_within : Enters Go.Proofs.Try.prog 46 := ⟨Go.Proofs.Try.f46, Go.Proofs.Try.func46, by kernel_rfl, by kernel_rfl⟩
theorem enters_msg_most : Enters Go.Proofs.Try.prog 47 := ⟨Go.Proofs.Try.f47, Go.Proofs.Try.func47, by kernel_rfl, by kernel_rfl⟩
theorem enters_msg_marked : Enters Go.Proofs.Try.prog 48 := ⟨Go.Proofs.Try.f48, Go.Proofs.Try.func48, by kernel_rfl, by kernel_rfl⟩
theorem enters_ref19_One : Enters Go.Proofs.Try.prog 49 := ⟨Go.Proofs.Try.f49, Go.Proofs.Try.func49, by kernel_rfl, by kernel_rfl⟩
theorem enters_ref21_so : Enters Go.Proofs.Try.prog 50 := ⟨Go.Proofs.Try.f50, Go.Proofs.Try.func50, by kernel_rfl, by kernel_rfl⟩
theorem enters_ref21_marked : Enters Go.Proofs.Try.prog 51 := ⟨Go.Proofs.Try.f51, Go.Proofs.Try.func51, by kernel_rfl, by kernel_rfl⟩
theorem enters_octet_Same : Enters Go.Proofs.Try.prog 52 := ⟨Go.Proofs.Try.f52, Go.Proofs.Try.func52, by kernel_rfl, by kernel_rfl⟩
theorem enters_octet_FromBits : Enters Go.Proofs.Try.prog 53 := ⟨Go.Proofs.Try.f53, Go.Proofs.Try.func53, by kernel_rfl, by kernel_rfl⟩
theorem enters_ref01_FromBits : Enters Go.Proofs.Try.prog 54 := ⟨Go.Proofs.Try.f54, Go.Proofs.Try.func54, by kernel_rfl, by kernel_rfl⟩
theorem enters_msg_Get_1 : Enters Go.Proofs.Try.prog 55 := ⟨Go.Proofs.Try.f55, Go.Proofs.Try.func55, by kernel_rfl, by kernel_rfl⟩
theorem enters_msg_reader_number : Enters Go.Proofs.Try.prog 56 := ⟨Go.Proofs.Try.f56, Go.Proofs.Try.func56, by kernel_rfl, by kernel_rfl⟩
theorem enters_msg_fields : Enters Go.Proofs.Try.prog 57 := ⟨Go.Proofs.Try.f57, Go.Proofs.Try.func57, by kernel_rfl, by kernel_rfl⟩
theorem enters_msg_reader_read : Enters Go.Proofs.Try.prog 58 := ⟨Go.Proofs.Try.f58, Go.Proofs.Try.func58, by kernel_rfl, by kernel_rfl⟩
theorem enters_ref21_reader_number : Enters Go.Proofs.Try.prog 59 := ⟨Go.Proofs.Try.f59, Go.Proofs.Try.func59, by kernel_rfl, by kernel_rfl⟩
theorem enters_ref21_reader_text : Enters Go.Proofs.Try.prog 60 := ⟨Go.Proofs.Try.f60, Go.Proofs.Try.func60, by kernel_rfl, by kernel_rfl⟩
theorem enters_octet_U16 : Enters Go.Proofs.Try.prog 61 := ⟨Go.Proofs.Try.f61, Go.Proofs.Try.func61, by kernel_rfl, by kernel_rfl⟩
theorem enters_octet_Big : Enters Go.Proofs.Try.prog 62 := ⟨Go.Proofs.Try.f62, Go.Proofs.Try.func62, by kernel_rfl, by kernel_rfl⟩
theorem enters_msg_value : Enters Go.Proofs.Try.prog 63 := ⟨Go.Proofs.Try.f63, Go.Proofs.Try.func63, by kernel_rfl, by kernel_rfl⟩
theorem enters_ref01_Big : Enters Go.Proofs.Try.prog 64 := ⟨Go.Proofs.Try.f64, Go.Proofs.Try.func64, by kernel_rfl, by kernel_rfl⟩
theorem enters_ref21_text : Enters Go.Proofs.Try.prog 65 := ⟨Go.Proofs.Try.f65, Go.Proofs.Try.func65, by kernel_rfl, by kernel_rfl⟩
theorem enters_span_May : Enters Go.Proofs.Try.prog 66 := ⟨Go.Proofs.Try.f66, Go.Proofs.Try.func66, by kernel_rfl, by kernel_rfl⟩
theorem enters_octet_BigOf : Enters Go.Proofs.Try.prog 67 := ⟨Go.Proofs.Try.f67, Go.Proofs.Try.func67, by kernel_rfl, by kernel_rfl⟩
theorem enters_msg_reader_take : Enters Go.Proofs.Try.prog 68 := ⟨Go.Proofs.Try.f68, Go.Proofs.Try.func68, by kernel_rfl, by kernel_rfl⟩
theorem enters_ref01_Number : Enters Go.Proofs.Try.prog 69 := ⟨Go.Proofs.Try.f69, Go.Proofs.Try.func69, by kernel_rfl, by kernel_rfl⟩
theorem enters_ref21_reader_raw : Enters Go.Proofs.Try.prog 70 := ⟨Go.Proofs.Try.f70, Go.Proofs.Try.func70, by kernel_rfl, by kernel_rfl⟩
theorem enters_octet_big : Enters Go.Proofs.Try.prog 71 := ⟨Go.Proofs.Try.f71, Go.Proofs.Try.func71, by kernel_rfl, by kernel_rfl⟩
theorem enters_octet_fits : Enters Go.Proofs.Try.prog 72 := ⟨Go.Proofs.Try.f72, Go.Proofs.Try.func72, by kernel_rfl, by kernel_rfl⟩
theorem enters_span_one : Enters Go.Proofs.Try.prog 73 := ⟨Go.Proofs.Try.f73, Go.Proofs.Try.func73, by kernel_rfl, by kernel_rfl⟩
theorem enters_msg_text_at : Enters Go.Proofs.Try.prog 90 := ⟨Go.Proofs.Try.f90, Go.Proofs.Try.func90, by kernel_rfl, by kernel_rfl⟩
theorem enters_msg_byteOf_at : Enters Go.Proofs.Try.prog 91 := ⟨Go.Proofs.Try.f91, Go.Proofs.Try.func91, by kernel_rfl, by kernel_rfl⟩
theorem enters_msg_word_at : Enters Go.Proofs.Try.prog 92 := ⟨Go.Proofs.Try.f92, Go.Proofs.Try.func92, by kernel_rfl, by kernel_rfl⟩
theorem enters_msg_long_at : Enters Go.Proofs.Try.prog 93 := ⟨Go.Proofs.Try.f93, Go.Proofs.Try.func93, by kernel_rfl, by kernel_rfl⟩
theorem enters_msg_short_at : Enters Go.Proofs.Try.prog 94 := ⟨Go.Proofs.Try.f94, Go.Proofs.Try.func94, by kernel_rfl, by kernel_rfl⟩
end Go.Ax.TryP
