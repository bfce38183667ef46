/- A part of the proof: CapT. -/
import Derived.Test.YthnokigjmkaojaaAxC
import Derived.Test.YthnokigjmkaojaaProg
/-! Printed by program (gen.py). -/
set_option linter.unusedVariables false
namespace Go.Ax.TryP
theorem mix : Go.Proofs.Try.prog.follows .mixedOrders = true := by kernel_rfl
noncomputable def ty2 : TyI where
  td := .int .i64
  size := 1
  bytes := 8
  zero := [.xs (.int .i64) 1 [0]]
theorem ty2_ok : TyOk Go.Proofs.Try.prog 2 ty2 :=
  TyOk.of (f := Go.Proofs.Try.t2) (z := (Go.Proofs.Try.t2.zero).getD .nilIface) (cs := (zeroS ty2.zero).getD []) Go.Proofs.Try.underlying2 (by kernel_rfl) (by kernel_rfl) ⟨by kernel_rfl, by kernel_rfl⟩ (by kernel_rfl) (by kernel_rfl) (by kernel_rfl) (by kernel_rfl) (by kernel_rfl)
noncomputable def ty3 : TyI where
  td := .int .i64
  size := 1
  bytes := 8
  zero := [.xs (.int .i64) 1 [0]]
theorem ty3_ok : TyOk Go.Proofs.Try.prog 3 ty3 :=
  TyOk.of (f := Go.Proofs.Try.t3) (z := (Go.Proofs.Try.t3.zero).getD .nilIface) (cs := (zeroS ty3.zero).getD []) Go.Proofs.Try.underlying3 (by kernel_rfl) (by kernel_rfl) ⟨by kernel_rfl, by kernel_rfl⟩ (by kernel_rfl) (by kernel_rfl) (by kernel_rfl) (by kernel_rfl) (by kernel_rfl)
noncomputable def ty4 : TyI where
  td := .bool
  size := 1
  bytes := 1
  zero := [.xs .bool 1 [0]]
theorem ty4_ok : TyOk Go.Proofs.Try.prog 4 ty4 :=
  TyOk.of (f := Go.Proofs.Try.t4) (z := (Go.Proofs.Try.t4.zero).getD .nilIface) (cs := (zeroS ty4.zero).getD []) Go.Proofs.Try.underlying4 (by kernel_rfl) (by kernel_rfl) ⟨by kernel_rfl, by kernel_rfl⟩ (by kernel_rfl) (by kernel_rfl) (by kernel_rfl) (by kernel_rfl) (by kernel_rfl)
noncomputable def ty5 : TyI where
  td := .int .u8
  size := 1
  bytes := 1
  zero := [.xs (.int .u8) 1 [0]]
theorem ty5_ok : TyOk Go.Proofs.Try.prog 5 ty5 :=
  TyOk.of (f := Go.Proofs.Try.t5) (z := (Go.Proofs.Try.t5.zero).getD .nilIface) (cs := (zeroS ty5.zero).getD []) Go.Proofs.Try.underlying5 (by kernel_rfl) (by kernel_rfl) ⟨by kernel_rfl, by kernel_rfl⟩ (by kernel_rfl) (by kernel_rfl) (by kernel_rfl) (by kernel_rfl) (by kernel_rfl)
noncomputable def ty6 : TyI where
  td := .int .u8
  size := 1
  bytes := 1
  zero := [.xs (.int .u8) 1 [0]]
theorem ty6_ok : TyOk Go.Proofs.Try.prog 6 ty6 :=
  TyOk.of (f := Go.Proofs.Try.t6) (z := (Go.Proofs.Try.t6.zero).getD .nilIface) (cs := (zeroS ty6.zero).getD []) Go.Proofs.Try.underlying6 (by kernel_rfl) (by kernel_rfl) ⟨by kernel_rfl, by kernel_rfl⟩ (by kernel_rfl) (by kernel_rfl) (by kernel_rfl) (by kernel_rfl) (by kernel_rfl)
noncomputable def ty7 : TyI where
  td := .st [(0, 2), (1, 3), (2, 4), (3, 6)]
  size := 4
  bytes := 24
  zero := [.xs (.int .i64) 1 [0], .xs (.int .i64) 1 [0], .xs .bool 1 [0], .xs (.int .u8) 1 [0]]
theorem ty7_ok : TyOk Go.Proofs.Try.prog 7 ty7 :=
  TyOk.of (f := Go.Proofs.Try.t7) (z := (Go.Proofs.Try.t7.zero).getD .nilIface) (cs := (zeroS ty7.zero).getD []) Go.Proofs.Try.underlying7 (by kernel_rfl) (by kernel_rfl) ⟨by kernel_rfl, by kernel_rfl⟩ (by kernel_rfl) (by kernel_rfl) (by kernel_rfl) (by kernel_rfl) (by kernel_rfl)
noncomputable def ty8 : TyI where
  td := .st [(0, 2), (1, 3), (2, 4), (3, 6)]
  size := 4
  bytes := 24
  zero := [.xs (.int .i64) 1 [0], .xs (.int .i64) 1 [0], .xs .bool 1 [0], .xs (.int .u8) 1 [0]]
theorem ty8_ok : TyOk Go.Proofs.Try.prog 8 ty8 :=
  TyOk.of (f := Go.Proofs.Try.t8) (z := (Go.Proofs.Try.t8.zero).getD .nilIface) (cs := (zeroS ty8.zero).getD []) Go.Proofs.Try.underlying8 (by kernel_rfl) (by kernel_rfl) ⟨by kernel_rfl, by kernel_rfl⟩ (by kernel_rfl) (by kernel_rfl) (by kernel_rfl) (by kernel_rfl) (by kernel_rfl)
noncomputable def ty9 : TyI where
  td := .str
  size := 1
  bytes := 16
  zero := [.one (.str (⟨#[]⟩ : ByteArray))]
theorem ty9_ok : TyOk Go.Proofs.Try.prog 9 ty9 :=
  TyOk.of (f := Go.Proofs.Try.t9) (z := (Go.Proofs.Try.t9.zero).getD .nilIface) (cs := (zeroS ty9.zero).getD []) Go.Proofs.Try.underlying9 (by kernel_rfl) (by kernel_rfl) ⟨by kernel_rfl, by kernel_rfl⟩ (by kernel_rfl) (by kernel_rfl) (by kernel_rfl) (by kernel_rfl) (by kernel_rfl)
noncomputable def ty10 : TyI where
  td := .str
  size := 1
  bytes := 16
  zero := [.one (.str (⟨#[]⟩ : ByteArray))]
theorem ty10_ok : TyOk Go.Proofs.Try.prog 10 ty10 :=
  TyOk.of (f := Go.Proofs.Try.t10) (z := (Go.Proofs.Try.t10.zero).getD .nilIface) (cs := (zeroS ty10.zero).getD []) Go.Proofs.Try.underlying10 (by kernel_rfl) (by kernel_rfl) ⟨by kernel_rfl, by kernel_rfl⟩ (by kernel_rfl) (by kernel_rfl) (by kernel_rfl) (by kernel_rfl) (by kernel_rfl)
noncomputable def ty11 : TyI where
  td := .str
  size := 1
  bytes := 16
  zero := [.one (.str (⟨#[]⟩ : ByteArray))]
theorem ty11_ok : TyOk Go.Proofs.Try.prog 11 ty11 :=
  TyOk.of (f := Go.Proofs.Try.t11) (z := (Go.Proofs.Try.t11.zero).getD .nilIface) (cs := (zeroS ty11.zero).getD []) Go.Proofs.Try.underlying11 (by kernel_rfl) (by kernel_rfl) ⟨by kernel_rfl, by kernel_rfl⟩ (by kernel_rfl) (by kernel_rfl) (by kernel_rfl) (by kernel_rfl) (by kernel_rfl)
noncomputable def ty12 : TyI where
  td := .int .u64
  size := 1
  bytes := 8
  zero := [.xs (.int .u64) 1 [0]]
theorem ty12_ok : TyOk Go.Proofs.Try.prog 12 ty12 :=
  TyOk.of (f := Go.Proofs.Try.t12) (z := (Go.Proofs.Try.t12.zero).getD .nilIface) (cs := (zeroS ty12.zero).getD []) Go.Proofs.Try.underlying12 (by kernel_rfl) (by kernel_rfl) ⟨by kernel_rfl, by kernel_rfl⟩ (by kernel_rfl) (by kernel_rfl) (by kernel_rfl) (by kernel_rfl) (by kernel_rfl)
noncomputable def ty13 : TyI where
  td := .st [(0, 9), (1, 12)]
  size := 2
  bytes := 24
  zero := [.one (.str (⟨#[]⟩ : ByteArray)), .xs (.int .u64) 1 [0]]
theorem ty13_ok : TyOk Go.Proofs.Try.prog 13 ty13 :=
  TyOk.of (f := Go.Proofs.Try.t13) (z := (Go.Proofs.Try.t13.zero).getD .nilIface) (cs := (zeroS ty13.zero).getD []) Go.Proofs.Try.underlying13 (by kernel_rfl) (by kernel_rfl) ⟨by kernel_rfl, by kernel_rfl⟩ (by kernel_rfl) (by kernel_rfl) (by kernel_rfl) (by kernel_rfl) (by kernel_rfl)
noncomputable def ty14 : TyI where
  td := .st [(0, 9), (1, 12)]
  size := 2
  bytes := 24
  zero := [.one (.str (⟨#[]⟩ : ByteArray)), .xs (.int .u64) 1 [0]]
theorem ty14_ok : TyOk Go.Proofs.Try.prog 14 ty14 :=
  TyOk.of (f := Go.Proofs.Try.t14) (z := (Go.Proofs.Try.t14.zero).getD .nilIface) (cs := (zeroS ty14.zero).getD []) Go.Proofs.Try.underlying14 (by kernel_rfl) (by kernel_rfl) ⟨by kernel_rfl, by kernel_rfl⟩ (by kernel_rfl) (by kernel_rfl) (by kernel_rfl) (by kernel_rfl) (by kernel_rfl)
noncomputable def ty15 : TyI where
  td := .ptr 71
  size := 1
  bytes := 8
  zero := [.one (.nilp)]
theorem ty15_ok : TyOk Go.Proofs.Try.prog 15 ty15 :=
  TyOk.of (f := Go.Proofs.Try.t15) (z := (Go.Proofs.Try.t15.zero).getD .nilIface) (cs := (zeroS ty15.zero).getD []) Go.Proofs.Try.underlying15 (by kernel_rfl) (by kernel_rfl) ⟨by kernel_rfl, by kernel_rfl⟩ (by kernel_rfl) (by kernel_rfl) (by kernel_rfl) (by kernel_rfl) (by kernel_rfl)
noncomputable def ty16 : TyI where
  td := .ptr 74
  size := 1
  bytes := 8
  zero := [.one (.nilp)]
theorem ty16_ok : TyOk Go.Proofs.Try.prog 16 ty16 :=
  TyOk.of (f := Go.Proofs.Try.t16) (z := (Go.Proofs.Try.t16.zero).getD .nilIface) (cs := (zeroS ty16.zero).getD []) Go.Proofs.Try.underlying16 (by kernel_rfl) (by kernel_rfl) ⟨by kernel_rfl, by kernel_rfl⟩ (by kernel_rfl) (by kernel_rfl) (by kernel_rfl) (by kernel_rfl) (by kernel_rfl)
noncomputable def ty17 : TyI where
  td := .ptr 83
  size := 1
  bytes := 8
  zero := [.one (.nilp)]
theorem ty17_ok : TyOk Go.Proofs.Try.prog 17 ty17 :=
  TyOk.of (f := Go.Proofs.Try.t17) (z := (Go.Proofs.Try.t17.zero).getD .nilIface) (cs := (zeroS ty17.zero).getD []) Go.Proofs.Try.underlying17 (by kernel_rfl) (by kernel_rfl) ⟨by kernel_rfl, by kernel_rfl⟩ (by kernel_rfl) (by kernel_rfl) (by kernel_rfl) (by kernel_rfl) (by kernel_rfl)
noncomputable def ty18 : TyI where
  td := .st [(0, 17)]
  size := 1
  bytes := 8
  zero := [.one (.nilp)]
theorem ty18_ok : TyOk Go.Proofs.Try.prog 18 ty18 :=
  TyOk.of (f := Go.Proofs.Try.t18) (z := (Go.Proofs.Try.t18.zero).getD .nilIface) (cs := (zeroS ty18.zero).getD []) Go.Proofs.Try.underlying18 (by kernel_rfl) (by kernel_rfl) ⟨by kernel_rfl, by kernel_rfl⟩ (by kernel_rfl) (by kernel_rfl) (by kernel_rfl) (by kernel_rfl) (by kernel_rfl)
noncomputable def ty19 : TyI where
  td := .st [(0, 17)]
  size := 1
  bytes := 8
  zero := [.one (.nilp)]
theorem ty19_ok : TyOk Go.Proofs.Try.prog 19 ty19 :=
  TyOk.of (f := Go.Proofs.Try.t19) (z := (Go.Proofs.Try.t19.zero).getD .nilIface) (cs := (zeroS ty19.zero).getD []) Go.Proofs.Try.underlying19 (by kernel_rfl) (by kernel_rfl) ⟨by kernel_rfl, by kernel_rfl⟩ (by kernel_rfl) (by kernel_rfl) (by kernel_rfl) (by kernel_rfl) (by kernel_rfl)
noncomputable def ty21 : TyI where
  td := .int .i32
  size := 1
  bytes := 4
  zero := [.xs (.int .i32) 1 [0]]
theorem ty21_ok : TyOk Go.Proofs.Try.prog 21 ty21 :=
  TyOk.of (f := Go.Proofs.Try.t21) (z := (Go.Proofs.Try.t21.zero).getD .nilIface) (cs := (zeroS ty21.zero).getD []) Go.Proofs.Try.underlying21 (by kernel_rfl) (by kernel_rfl) ⟨by kernel_rfl, by kernel_rfl⟩ (by kernel_rfl) (by kernel_rfl) (by kernel_rfl) (by kernel_rfl) (by kernel_rfl)
noncomputable def ty22 : TyI where
  td := .sl 5
  size := 1
  bytes := 24
  zero := [.one (.nilsl)]
theorem ty22_ok : TyOk Go.Proofs.Try.prog 22 ty22 :=
  TyOk.of (f := Go.Proofs.Try.t22) (z := (Go.Proofs.Try.t22.zero).getD .nilIface) (cs := (zeroS ty22.zero).getD []) Go.Proofs.Try.underlying22 (by kernel_rfl) (by kernel_rfl) ⟨by kernel_rfl, by kernel_rfl⟩ (by kernel_rfl) (by kernel_rfl) (by kernel_rfl) (by kernel_rfl) (by kernel_rfl)
noncomputable def ty23 : TyI where
  td := .sl 22
  size := 1
  bytes := 24
  zero := [.one (.nilsl)]
theorem ty23_ok : TyOk Go.Proofs.Try.prog 23 ty23 :=
  TyOk.of (f := Go.Proofs.Try.t23) (z := (Go.Proofs.Try.t23.zero).getD .nilIface) (cs := (zeroS ty23.zero).getD []) Go.Proofs.Try.underlying23 (by kernel_rfl) (by kernel_rfl) ⟨by kernel_rfl, by kernel_rfl⟩ (by kernel_rfl) (by kernel_rfl) (by kernel_rfl) (by kernel_rfl) (by kernel_rfl)
noncomputable def ty25 : TyI where
  td := .int .i64
  size := 1
  bytes := 8
  zero := [.xs (.int .i64) 1 [0]]
theorem ty25_ok : TyOk Go.Proofs.Try.prog 25 ty25 :=
  TyOk.of (f := Go.Proofs.Try.t25) (z := (Go.Proofs.Try.t25.zero).getD .nilIface) (cs := (zeroS ty25.zero).getD []) Go.Proofs.Try.underlying25 (by kernel_rfl) (by kernel_rfl) ⟨by kernel_rfl, by kernel_rfl⟩ (by kernel_rfl) (by kernel_rfl) (by kernel_rfl) (by kernel_rfl) (by kernel_rfl)
noncomputable def ty32 : TyI where
  td := .int .u32
  size := 1
  bytes := 4
  zero := [.xs (.int .u32) 1 [0]]
theorem ty32_ok : TyOk Go.Proofs.Try.prog 32 ty32 :=
  TyOk.of (f := Go.Proofs.Try.t32) (z := (Go.Proofs.Try.t32.zero).getD .nilIface) (cs := (zeroS ty32.zero).getD []) Go.Proofs.Try.underlying32 (by kernel_rfl) (by kernel_rfl) ⟨by kernel_rfl, by kernel_rfl⟩ (by kernel_rfl) (by kernel_rfl) (by kernel_rfl) (by kernel_rfl) (by kernel_rfl)
noncomputable def ty33 : TyI where
  td := .int .u64
  size := 1
  bytes := 8
  zero := [.xs (.int .u64) 1 [0]]
theorem ty33_ok : TyOk Go.Proofs.Try.prog 33 ty33 :=
  TyOk.of (f := Go.Proofs.Try.t33) (z := (Go.Proofs.Try.t33.zero).getD .nilIface) (cs := (zeroS ty33.zero).getD []) Go.Proofs.Try.underlying33 (by kernel_rfl) (by kernel_rfl) ⟨by kernel_rfl, by kernel_rfl⟩ (by kernel_rfl) (by kernel_rfl) (by kernel_rfl) (by kernel_rfl) (by kernel_rfl)
noncomputable def ty34 : TyI where
  td := .st [(0, 33), (1, 33)]
  size := 2
  bytes := 16
  zero := [.xs (.int .u64) 2 (List.replicate 2 0)]
theorem ty34_ok : TyOk Go.Proofs.Try.prog 34 ty34 :=
  TyOk.of (f := Go.Proofs.Try.t34) (z := (Go.Proofs.Try.t34.zero).getD .nilIface) (cs := (zeroS ty34.zero).getD []) Go.Proofs.Try.underlying34 (by kernel_rfl) (by kernel_rfl) ⟨by kernel_rfl, by kernel_rfl⟩ (by kernel_rfl) (by kernel_rfl) (by kernel_rfl) (by kernel_rfl) (by kernel_rfl)
noncomputable def ty35 : TyI where
  td := .st [(0, 33), (1, 33)]
  size := 2
  bytes := 16
  zero := [.xs (.int .u64) 2 (List.replicate 2 0)]
theorem ty35_ok : TyOk Go.Proofs.Try.prog 35 ty35 :=
  TyOk.of (f := Go.Proofs.Try.t35) (z := (Go.Proofs.Try.t35.zero).getD .nilIface) (cs := (zeroS ty35.zero).getD []) Go.Proofs.Try.underlying35 (by kernel_rfl) (by kernel_rfl) ⟨by kernel_rfl, by kernel_rfl⟩ (by kernel_rfl) (by kernel_rfl) (by kernel_rfl) (by kernel_rfl) (by kernel_rfl)
noncomputable def ty36 : TyI where
  td := .st [(0, 3), (1, 3), (2, 32), (3, 32), (4, 35), (6, 22), (7, 22), (8, 22), (9, 22)]
  size := 10
  bytes := 136
  zero := [.xs (.int .i64) 1 [0], .xs (.int .i64) 1 [0], .xs (.int .u32) 1 [0], .xs (.int .u32) 1 [0], .xs (.int .u64) 2 (List.replicate 2 0), .one (.nilsl), .one (.nilsl), .one (.nilsl), .one (.nilsl)]
theorem ty36_ok : TyOk Go.Proofs.Try.prog 36 ty36 :=
  TyOk.of (f := Go.Proofs.Try.t36) (z := (Go.Proofs.Try.t36.zero).getD .nilIface) (cs := (zeroS ty36.zero).getD []) Go.Proofs.Try.underlying36 (by kernel_rfl) (by kernel_rfl) ⟨by kernel_rfl, by kernel_rfl⟩ (by kernel_rfl) (by kernel_rfl) (by kernel_rfl) (by kernel_rfl) (by kernel_rfl)
noncomputable def ty37 : TyI where
  td := .st [(0, 3), (1, 3), (2, 32), (3, 32), (4, 35), (6, 22), (7, 22), (8, 22), (9, 22)]
  size := 10
  bytes := 136
  zero := [.xs (.int .i64) 1 [0], .xs (.int .i64) 1 [0], .xs (.int .u32) 1 [0], .xs (.int .u32) 1 [0], .xs (.int .u64) 2 (List.replicate 2 0), .one (.nilsl), .one (.nilsl), .one (.nilsl), .one (.nilsl)]
theorem ty37_ok : TyOk Go.Proofs.Try.prog 37 ty37 :=
  TyOk.of (f := Go.Proofs.Try.t37) (z := (Go.Proofs.Try.t37.zero).getD .nilIface) (cs := (zeroS ty37.zero).getD []) Go.Proofs.Try.underlying37 (by kernel_rfl) (by kernel_rfl) ⟨by kernel_rfl, by kernel_rfl⟩ (by kernel_rfl) (by kernel_rfl) (by kernel_rfl) (by kernel_rfl) (by kernel_rfl)
noncomputable def ty50 : TyI where
  td := .ptr 52
  size := 1
  bytes := 8
  zero := [.one (.nilp)]
theorem ty50_ok : TyOk Go.Proofs.Try.prog 50 ty50 :=
  TyOk.of (f := Go.Proofs.Try.t50) (z := (Go.Proofs.Try.t50.zero).getD .nilIface) (cs := (zeroS ty50.zero).getD []) Go.Proofs.Try.underlying50 (by kernel_rfl) (by kernel_rfl) ⟨by kernel_rfl, by kernel_rfl⟩ (by kernel_rfl) (by kernel_rfl) (by kernel_rfl) (by kernel_rfl) (by kernel_rfl)
noncomputable def ty51 : TyI where
  td := .st [(0, 22), (1, 4)]
  size := 2
  bytes := 32
  zero := [.one (.nilsl), .xs .bool 1 [0]]
theorem ty51_ok : TyOk Go.Proofs.Try.prog 51 ty51 :=
  TyOk.of (f := Go.Proofs.Try.t51) (z := (Go.Proofs.Try.t51.zero).getD .nilIface) (cs := (zeroS ty51.zero).getD []) Go.Proofs.Try.underlying51 (by kernel_rfl) (by kernel_rfl) ⟨by kernel_rfl, by kernel_rfl⟩ (by kernel_rfl) (by kernel_rfl) (by kernel_rfl) (by kernel_rfl) (by kernel_rfl)
noncomputable def ty52 : TyI where
  td := .st [(0, 22), (1, 4)]
  size := 2
  bytes := 32
  zero := [.one (.nilsl), .xs .bool 1 [0]]
theorem ty52_ok : TyOk Go.Proofs.Try.prog 52 ty52 :=
  TyOk.of (f := Go.Proofs.Try.t52) (z := (Go.Proofs.Try.t52.zero).getD .nilIface) (cs := (zeroS ty52.zero).getD []) Go.Proofs.Try.underlying52 (by kernel_rfl) (by kernel_rfl) ⟨by kernel_rfl, by kernel_rfl⟩ (by kernel_rfl) (by kernel_rfl) (by kernel_rfl) (by kernel_rfl) (by kernel_rfl)
noncomputable def ty59 : TyI where
  td := .int .u16
  size := 1
  bytes := 2
  zero := [.xs (.int .u16) 1 [0]]
theorem ty59_ok : TyOk Go.Proofs.Try.prog 59 ty59 :=
  TyOk.of (f := Go.Proofs.Try.t59) (z := (Go.Proofs.Try.t59.zero).getD .nilIface) (cs := (zeroS ty59.zero).getD []) Go.Proofs.Try.underlying59 (by kernel_rfl) (by kernel_rfl) ⟨by kernel_rfl, by kernel_rfl⟩ (by kernel_rfl) (by kernel_rfl) (by kernel_rfl) (by kernel_rfl) (by kernel_rfl)
noncomputable def ty62 : TyI where
  td := .sl 35
  size := 1
  bytes := 24
  zero := [.one (.nilsl)]
theorem ty62_ok : TyOk Go.Proofs.Try.prog 62 ty62 :=
  TyOk.of (f := Go.Proofs.Try.t62) (z := (Go.Proofs.Try.t62.zero).getD .nilIface) (cs := (zeroS ty62.zero).getD []) Go.Proofs.Try.underlying62 (by kernel_rfl) (by kernel_rfl) ⟨by kernel_rfl, by kernel_rfl⟩ (by kernel_rfl) (by kernel_rfl) (by kernel_rfl) (by kernel_rfl) (by kernel_rfl)
noncomputable def ty68 : TyI where
  td := .int .u64
  size := 1
  bytes := 8
  zero := [.xs (.int .u64) 1 [0]]
theorem ty68_ok : TyOk Go.Proofs.Try.prog 68 ty68 :=
  TyOk.of (f := Go.Proofs.Try.t68) (z := (Go.Proofs.Try.t68.zero).getD .nilIface) (cs := (zeroS ty68.zero).getD []) Go.Proofs.Try.underlying68 (by kernel_rfl) (by kernel_rfl) ⟨by kernel_rfl, by kernel_rfl⟩ (by kernel_rfl) (by kernel_rfl) (by kernel_rfl) (by kernel_rfl) (by kernel_rfl)
noncomputable def ty70 : TyI where
  td := .st [(0, 17), (1, 17), (2, 17), (3, 9)]
  size := 4
  bytes := 40
  zero := [.one (.nilp), .one (.nilp), .one (.nilp), .one (.str (⟨#[]⟩ : ByteArray))]
theorem ty70_ok : TyOk Go.Proofs.Try.prog 70 ty70 :=
  TyOk.of (f := Go.Proofs.Try.t70) (z := (Go.Proofs.Try.t70.zero).getD .nilIface) (cs := (zeroS ty70.zero).getD []) Go.Proofs.Try.underlying70 (by kernel_rfl) (by kernel_rfl) ⟨by kernel_rfl, by kernel_rfl⟩ (by kernel_rfl) (by kernel_rfl) (by kernel_rfl) (by kernel_rfl) (by kernel_rfl)
noncomputable def ty71 : TyI where
  td := .st [(0, 17), (1, 17), (2, 17), (3, 9)]
  size := 4
  bytes := 40
  zero := [.one (.nilp), .one (.nilp), .one (.nilp), .one (.str (⟨#[]⟩ : ByteArray))]
theorem ty71_ok : TyOk Go.Proofs.Try.prog 71 ty71 :=
  TyOk.of (f := Go.Proofs.Try.t71) (z := (Go.Proofs.Try.t71.zero).getD .nilIface) (cs := (zeroS ty71.zero).getD []) Go.Proofs.Try.underlying71 (by kernel_rfl) (by kernel_rfl) ⟨by kernel_rfl, by kernel_rfl⟩ (by kernel_rfl) (by kernel_rfl) (by kernel_rfl) (by kernel_rfl) (by kernel_rfl)
noncomputable def ty72 : TyI where
  td := .arr 0 16
  size := 0
  bytes := 0
  zero := []
theorem ty72_ok : TyOk Go.Proofs.Try.prog 72 ty72 :=
  TyOk.of (f := Go.Proofs.Try.t72) (z := (Go.Proofs.Try.t72.zero).getD .nilIface) (cs := (zeroS ty72.zero).getD []) Go.Proofs.Try.underlying72 (by kernel_rfl) (by kernel_rfl) ⟨by kernel_rfl, by kernel_rfl⟩ (by kernel_rfl) (by kernel_rfl) (by kernel_rfl) (by kernel_rfl) (by kernel_rfl)
noncomputable def ty73 : TyI where
  td := .st [(0, 72)]
  size := 0
  bytes := 0
  zero := []
theorem ty73_ok : TyOk Go.Proofs.Try.prog 73 ty73 :=
  TyOk.of (f := Go.Proofs.Try.t73) (z := (Go.Proofs.Try.t73.zero).getD .nilIface) (cs := (zeroS ty73.zero).getD []) Go.Proofs.Try.underlying73 (by kernel_rfl) (by kernel_rfl) ⟨by kernel_rfl, by kernel_rfl⟩ (by kernel_rfl) (by kernel_rfl) (by kernel_rfl) (by kernel_rfl) (by kernel_rfl)
noncomputable def ty74 : TyI where
  td := .st [(0, 72)]
  size := 0
  bytes := 0
  zero := []
theorem ty74_ok : TyOk Go.Proofs.Try.prog 74 ty74 :=
  TyOk.of (f := Go.Proofs.Try.t74) (z := (Go.Proofs.Try.t74.zero).getD .nilIface) (cs := (zeroS ty74.zero).getD []) Go.Proofs.Try.underlying74 (by kernel_rfl) (by kernel_rfl) ⟨by kernel_rfl, by kernel_rfl⟩ (by kernel_rfl) (by kernel_rfl) (by kernel_rfl) (by kernel_rfl) (by kernel_rfl)
noncomputable def ty76 : TyI where
  td := .int .u8
  size := 1
  bytes := 1
  zero := [.xs (.int .u8) 1 [0]]
theorem ty76_ok : TyOk Go.Proofs.Try.prog 76 ty76 :=
  TyOk.of (f := Go.Proofs.Try.t76) (z := (Go.Proofs.Try.t76.zero).getD .nilIface) (cs := (zeroS ty76.zero).getD []) Go.Proofs.Try.underlying76 (by kernel_rfl) (by kernel_rfl) ⟨by kernel_rfl, by kernel_rfl⟩ (by kernel_rfl) (by kernel_rfl) (by kernel_rfl) (by kernel_rfl) (by kernel_rfl)
noncomputable def ty77 : TyI where
  td := .int .u8
  size := 1
  bytes := 1
  zero := [.xs (.int .u8) 1 [0]]
theorem ty77_ok : TyOk Go.Proofs.Try.prog 77 ty77 :=
  TyOk.of (f := Go.Proofs.Try.t77) (z := (Go.Proofs.Try.t77.zero).getD .nilIface) (cs := (zeroS ty77.zero).getD []) Go.Proofs.Try.underlying77 (by kernel_rfl) (by kernel_rfl) ⟨by kernel_rfl, by kernel_rfl⟩ (by kernel_rfl) (by kernel_rfl) (by kernel_rfl) (by kernel_rfl) (by kernel_rfl)
noncomputable def ty79 : TyI where
  td := .ptr 5
  size := 1
  bytes := 8
  zero := [.one (.nilp)]
theorem ty79_ok : TyOk Go.Proofs.Try.prog 79 ty79 :=
  TyOk.of (f := Go.Proofs.Try.t79) (z := (Go.Proofs.Try.t79.zero).getD .nilIface) (cs := (zeroS ty79.zero).getD []) Go.Proofs.Try.underlying79 (by kernel_rfl) (by kernel_rfl) ⟨by kernel_rfl, by kernel_rfl⟩ (by kernel_rfl) (by kernel_rfl) (by kernel_rfl) (by kernel_rfl) (by kernel_rfl)
noncomputable def ty80 : TyI where
  td := .int .i32
  size := 1
  bytes := 4
  zero := [.xs (.int .i32) 1 [0]]
theorem ty80_ok : TyOk Go.Proofs.Try.prog 80 ty80 :=
  TyOk.of (f := Go.Proofs.Try.t80) (z := (Go.Proofs.Try.t80.zero).getD .nilIface) (cs := (zeroS ty80.zero).getD []) Go.Proofs.Try.underlying80 (by kernel_rfl) (by kernel_rfl) ⟨by kernel_rfl, by kernel_rfl⟩ (by kernel_rfl) (by kernel_rfl) (by kernel_rfl) (by kernel_rfl) (by kernel_rfl)
noncomputable def ty81 : TyI where
  td := .int .i32
  size := 1
  bytes := 4
  zero := [.xs (.int .i32) 1 [0]]
theorem ty81_ok : TyOk Go.Proofs.Try.prog 81 ty81 :=
  TyOk.of (f := Go.Proofs.Try.t81) (z := (Go.Proofs.Try.t81.zero).getD .nilIface) (cs := (zeroS ty81.zero).getD []) Go.Proofs.Try.underlying81 (by kernel_rfl) (by kernel_rfl) ⟨by kernel_rfl, by kernel_rfl⟩ (by kernel_rfl) (by kernel_rfl) (by kernel_rfl) (by kernel_rfl) (by kernel_rfl)
theorem steq35_ok : StEq Go.Proofs.Try.prog 35 .u64 2 := StEq.of (by kernel_rfl) (by kernel_rfl) (by kernel_rfl) (by kernel_rfl) (by kernel_rfl)
theorem enters_law23_CapsuleCuts : Enters Go.Proofs.Try.prog 3 := ⟨Go.Proofs.Try.f3, Go.Proofs.Try.func3, by kernel_rfl, by kernel_rfl⟩
theorem enters_law23_CapsuleApart : Enters Go.Proofs.Try.prog 4 := ⟨Go.Proofs.Try.f4, Go.Proofs.Try.func4, by kernel_rfl, by kernel_rfl⟩
theorem enters_law23_CapsulePuts : Enters Go.Proofs.Try.prog 5 := ⟨Go.Proofs.Try.f5, Go.Proofs.Try.func5, by kernel_rfl, by kernel_rfl⟩
theorem enters_law23_CapsuleGets : Enters Go.Proofs.Try.prog 6 := ⟨Go.Proofs.Try.f6, Go.Proofs.Try.func6, by kernel_rfl, by kernel_rfl⟩
theorem enters_law23_CapsuleBack : Enters Go.Proofs.Try.prog 7 := ⟨Go.Proofs.Try.f7, Go.Proofs.Try.func7, by kernel_rfl, by kernel_rfl⟩
theorem enters_law23_live : Enters Go.Proofs.Try.prog 8 := ⟨Go.Proofs.Try.f8, Go.Proofs.Try.func8, by kernel_rfl, by kernel_rfl⟩
theorem enters_capsule_Chunks : Enters Go.Proofs.Try.prog 9 := ⟨Go.Proofs.Try.f9, Go.Proofs.Try.func9, by kernel_rfl, by kernel_rfl⟩
theorem enters_ref23_Chunks : Enters Go.Proofs.Try.prog 10 := ⟨Go.Proofs.Try.f10, Go.Proofs.Try.func10, by kernel_rfl, by kernel_rfl⟩
theorem enters_ref01_Equal : Enters Go.Proofs.Try.prog 11 := ⟨Go.Proofs.Try.f11, Go.Proofs.Try.func11, by kernel_rfl, by kernel_rfl⟩
theorem enters_capsule_Gather : Enters Go.Proofs.Try.prog 12 := ⟨Go.Proofs.Try.f12, Go.Proofs.Try.func12, by kernel_rfl, by kernel_rfl⟩
theorem enters_ref23_Gather : Enters Go.Proofs.Try.prog 13 := ⟨Go.Proofs.Try.f13, Go.Proofs.Try.func13, by kernel_rfl, by kernel_rfl⟩
theorem enters_law23_big : Enters Go.Proofs.Try.prog 14 := ⟨Go.Proofs.Try.f14, Go.Proofs.Try.func14, by kernel_rfl, by kernel_rfl⟩
theorem enters_ref23_May : Enters Go.Proofs.Try.prog 15 := ⟨Go.Proofs.Try.f15, Go.Proofs.Try.func15, by kernel_rfl, by kernel_rfl⟩
theorem enters_capsule_Words : Enters Go.Proofs.Try.prog 16 := ⟨Go.Proofs.Try.f16, Go.Proofs.Try.func16, by kernel_rfl, by kernel_rfl⟩
theorem enters_capsule_Same : Enters Go.Proofs.Try.prog 17 := ⟨Go.Proofs.Try.f17, Go.Proofs.Try.func17, by kernel_rfl, by kernel_rfl⟩
theorem enters_capsule_Put : Enters Go.Proofs.Try.prog 18 := ⟨Go.Proofs.Try.f18, Go.Proofs.Try.func18, by kernel_rfl, by kernel_rfl⟩
theorem enters_ref23_Put : Enters Go.Proofs.Try.prog 19 := ⟨Go.Proofs.Try.f19, Go.Proofs.Try.func19, by kernel_rfl, by kernel_rfl⟩
theorem enters_capsule_Check : Enters Go.Proofs.Try.prog 20 := ⟨Go.Proofs.Try.f20, Go.Proofs.Try.func20, by kernel_rfl, by kernel_rfl⟩
theorem enters_capsule_Said : Enters Go.Proofs.Try.prog 21 := ⟨Go.Proofs.Try.f21, Go.Proofs.Try.func21, by kernel_rfl, by kernel_rfl⟩
theorem enters_ref23_Said : Enters Go.Proofs.Try.prog 22 := ⟨Go.Proofs.Try.f22, Go.Proofs.Try.func22, by kernel_rfl, by kernel_rfl⟩
theorem enters_ref23_Words : Enters Go.Proofs.Try.prog 23 := ⟨Go.Proofs.Try.f23, Go.Proofs.Try.func23, by kernel_rfl, by kernel_rfl⟩
theorem enters_ref23_Same : Enters Go.Proofs.Try.prog 24 := ⟨Go.Proofs.Try.f24, Go.Proofs.Try.func24, by kernel_rfl, by kernel_rfl⟩
theorem enters_ref01_Join : Enters Go.Proofs.Try.prog 25 := ⟨Go.Proofs.Try.f25, Go.Proofs.Try.func25, by kernel_rfl, by kernel_rfl⟩
theorem enters_capsule_Get : Enters Go.Proofs.Try.prog 26 := ⟨Go.Proofs.Try.f26, Go.Proofs.Try.func26, by kernel_rfl, by kernel_rfl⟩
theorem enters_ref23_Get : Enters Go.Proofs.Try.prog 27 := ⟨Go.Proofs.Try.f27, Go.Proofs.Try.func27, by kernel_rfl, by kernel_rfl⟩
theorem enters_octet_Join : Enters Go.Proofs.Try.prog 28 := ⟨Go.Proofs.Try.f28, Go.Proofs.Try.func28, by kernel_rfl, by kernel_rfl⟩
theorem enters_ref23_worded : Enters Go.Proofs.Try.prog 29 := ⟨Go.Proofs.Try.f29, Go.Proofs.Try.func29, by kernel_rfl, by kernel_rfl⟩
theorem enters_capsule_worded : Enters Go.Proofs.Try.prog 30 := ⟨Go.Proofs.Try.f30, Go.Proofs.Try.func30, by kernel_rfl, by kernel_rfl⟩
theorem enters_capsule_inner : Enters Go.Proofs.Try.prog 31 := ⟨Go.Proofs.Try.f31, Go.Proofs.Try.func31, by kernel_rfl, by kernel_rfl⟩
theorem enters_octet_Same : Enters Go.Proofs.Try.prog 32 := ⟨Go.Proofs.Try.f32, Go.Proofs.Try.func32, by kernel_rfl, by kernel_rfl⟩
theorem enters_capsule_spoken : Enters Go.Proofs.Try.prog 33 := ⟨Go.Proofs.Try.f33, Go.Proofs.Try.func33, by kernel_rfl, by kernel_rfl⟩
theorem enters_capsule_said : Enters Go.Proofs.Try.prog 34 := ⟨Go.Proofs.Try.f34, Go.Proofs.Try.func34, by kernel_rfl, by kernel_rfl⟩
theorem enters_ref23_spoken : Enters Go.Proofs.Try.prog 35 := ⟨Go.Proofs.Try.f35, Go.Proofs.Try.func35, by kernel_rfl, by kernel_rfl⟩
theorem enters_ref01_Big : Enters Go.Proofs.Try.prog 36 := ⟨Go.Proofs.Try.f36, Go.Proofs.Try.func36, by kernel_rfl, by kernel_rfl⟩
theorem enters_ref23_text : Enters Go.Proofs.Try.prog 37 := ⟨Go.Proofs.Try.f37, Go.Proofs.Try.func37, by kernel_rfl, by kernel_rfl⟩
theorem enters_capsule_reader_number : Enters Go.Proofs.Try.prog 38 := ⟨Go.Proofs.Try.f38, Go.Proofs.Try.func38, by kernel_rfl, by kernel_rfl⟩
theorem enters_capsule_reader_text : Enters Go.Proofs.Try.prog 39 := ⟨Go.Proofs.Try.f39, Go.Proofs.Try.func39, by kernel_rfl, by kernel_rfl⟩
theorem enters_capsule_reader_take : Enters Go.Proofs.Try.prog 40 := ⟨Go.Proofs.Try.f40, Go.Proofs.Try.func40, by kernel_rfl, by kernel_rfl⟩
theorem enters_ref01_Number : Enters Go.Proofs.Try.prog 41 := ⟨Go.Proofs.Try.f41, Go.Proofs.Try.func41, by kernel_rfl, by kernel_rfl⟩
theorem enters_octet_U16 : Enters Go.Proofs.Try.prog 42 := ⟨Go.Proofs.Try.f42, Go.Proofs.Try.func42, by kernel_rfl, by kernel_rfl⟩
theorem enters_capsule_spoken_1 : Enters Go.Proofs.Try.prog 43 := ⟨Go.Proofs.Try.f43, Go.Proofs.Try.func43, by kernel_rfl, by kernel_rfl⟩
theorem enters_span_May : Enters Go.Proofs.Try.prog 44 := ⟨Go.Proofs.Try.f44, Go.Proofs.Try.func44, by kernel_rfl, by kernel_rfl⟩
theorem enters_octet_U32 : Enters Go.Proofs.Try.prog 45 := ⟨Go.Proofs.Try.f45, Go.Proofs.Try.func45, by kernel_rfl, by kernel_rfl⟩
theorem enters_octet_U64 : Enters Go.Proofs.Try.prog 46 := ⟨Go.Proofs.Try.f46, Go.Proofs.Try.func46, by kernel_rfl, by kernel_rfl⟩
theorem enters_ref19_One : Enters Go.Proofs.Try.prog 47 := ⟨Go.Proofs.Try.f47, Go.Proofs.Try.func47, by kernel_rfl, by kernel_rfl⟩
theorem enters_octet_BigOf : Enters Go.Proofs.Try.prog 48 := ⟨Go.Proofs.Try.f48, Go.Proofs.Try.func48, by kernel_rfl, by kernel_rfl⟩
theorem enters_octet_big : Enters Go.Proofs.Try.prog 49 := ⟨Go.Proofs.Try.f49, Go.Proofs.Try.func49, by kernel_rfl, by kernel_rfl⟩
theorem enters_span_one : Enters Go.Proofs.Try.prog 50 := ⟨Go.Proofs.Try.f50, Go.Proofs.Try.func50, by kernel_rfl, by kernel_rfl⟩
end Go.Ax.TryP
