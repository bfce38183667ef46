/- A part of the proof: DringT. -/
import Derived.Test.YtnokmgclkediiaaAxC
import Derived.Test.YtnokmgclkediiaaProg
/-! Printed by program (gen.py). -/
set_option linter.unusedVariables false
namespace Go.Ax.TryP
theorem mix : Go.Proofs.Try.prog.follows .mixedOrders = true := by kernel_rfl
noncomputable def ty2 : TyI where
  td := .int .i64
  size := 1
  bytes := 8
  zero := [.xs (.int .i64) 1 [0]]
theorem ty2_ok : TyOk Go.Proofs.Try.prog 2 ty2 :=
  TyOk.of (f := Go.Proofs.Try.t2) (z := (Go.Proofs.Try.t2.zero).getD .nilIface) (cs := (zeroS ty2.zero).getD []) Go.Proofs.Try.underlying2 (by kernel_rfl) (by kernel_rfl) ⟨by kernel_rfl, by kernel_rfl⟩ (by kernel_rfl) (by kernel_rfl) (by kernel_rfl) (by kernel_rfl) (by kernel_rfl)
noncomputable def ty3 : TyI where
  td := .int .i64
  size := 1
  bytes := 8
  zero := [.xs (.int .i64) 1 [0]]
theorem ty3_ok : TyOk Go.Proofs.Try.prog 3 ty3 :=
  TyOk.of (f := Go.Proofs.Try.t3) (z := (Go.Proofs.Try.t3.zero).getD .nilIface) (cs := (zeroS ty3.zero).getD []) Go.Proofs.Try.underlying3 (by kernel_rfl) (by kernel_rfl) ⟨by kernel_rfl, by kernel_rfl⟩ (by kernel_rfl) (by kernel_rfl) (by kernel_rfl) (by kernel_rfl) (by kernel_rfl)
noncomputable def ty4 : TyI where
  td := .bool
  size := 1
  bytes := 1
  zero := [.xs .bool 1 [0]]
theorem ty4_ok : TyOk Go.Proofs.Try.prog 4 ty4 :=
  TyOk.of (f := Go.Proofs.Try.t4) (z := (Go.Proofs.Try.t4.zero).getD .nilIface) (cs := (zeroS ty4.zero).getD []) Go.Proofs.Try.underlying4 (by kernel_rfl) (by kernel_rfl) ⟨by kernel_rfl, by kernel_rfl⟩ (by kernel_rfl) (by kernel_rfl) (by kernel_rfl) (by kernel_rfl) (by kernel_rfl)
noncomputable def ty5 : TyI where
  td := .int .u8
  size := 1
  bytes := 1
  zero := [.xs (.int .u8) 1 [0]]
theorem ty5_ok : TyOk Go.Proofs.Try.prog 5 ty5 :=
  TyOk.of (f := Go.Proofs.Try.t5) (z := (Go.Proofs.Try.t5.zero).getD .nilIface) (cs := (zeroS ty5.zero).getD []) Go.Proofs.Try.underlying5 (by kernel_rfl) (by kernel_rfl) ⟨by kernel_rfl, by kernel_rfl⟩ (by kernel_rfl) (by kernel_rfl) (by kernel_rfl) (by kernel_rfl) (by kernel_rfl)
noncomputable def ty6 : TyI where
  td := .int .u8
  size := 1
  bytes := 1
  zero := [.xs (.int .u8) 1 [0]]
theorem ty6_ok : TyOk Go.Proofs.Try.prog 6 ty6 :=
  TyOk.of (f := Go.Proofs.Try.t6) (z := (Go.Proofs.Try.t6.zero).getD .nilIface) (cs := (zeroS ty6.zero).getD []) Go.Proofs.Try.underlying6 (by kernel_rfl) (by kernel_rfl) ⟨by kernel_rfl, by kernel_rfl⟩ (by kernel_rfl) (by kernel_rfl) (by kernel_rfl) (by kernel_rfl) (by kernel_rfl)
noncomputable def ty7 : TyI where
  td := .st [(0, 2), (1, 3), (2, 4), (3, 6)]
  size := 4
  bytes := 24
  zero := [.xs (.int .i64) 1 [0], .xs (.int .i64) 1 [0], .xs .bool 1 [0], .xs (.int .u8) 1 [0]]
theorem ty7_ok : TyOk Go.Proofs.Try.prog 7 ty7 :=
  TyOk.of (f := Go.Proofs.Try.t7) (z := (Go.Proofs.Try.t7.zero).getD .nilIface) (cs := (zeroS ty7.zero).getD []) Go.Proofs.Try.underlying7 (by kernel_rfl) (by kernel_rfl) ⟨by kernel_rfl, by kernel_rfl⟩ (by kernel_rfl) (by kernel_rfl) (by kernel_rfl) (by kernel_rfl) (by kernel_rfl)
noncomputable def ty8 : TyI where
  td := .st [(0, 2), (1, 3), (2, 4), (3, 6)]
  size := 4
  bytes := 24
  zero := [.xs (.int .i64) 1 [0], .xs (.int .i64) 1 [0], .xs .bool 1 [0], .xs (.int .u8) 1 [0]]
theorem ty8_ok : TyOk Go.Proofs.Try.prog 8 ty8 :=
  TyOk.of (f := Go.Proofs.Try.t8) (z := (Go.Proofs.Try.t8.zero).getD .nilIface) (cs := (zeroS ty8.zero).getD []) Go.Proofs.Try.underlying8 (by kernel_rfl) (by kernel_rfl) ⟨by kernel_rfl, by kernel_rfl⟩ (by kernel_rfl) (by kernel_rfl) (by kernel_rfl) (by kernel_rfl) (by kernel_rfl)
noncomputable def ty9 : TyI where
  td := .str
  size := 1
  bytes := 16
  zero := [.one (.str (⟨#[]⟩ : ByteArray))]
theorem ty9_ok : TyOk Go.Proofs.Try.prog 9 ty9 :=
  TyOk.of (f := Go.Proofs.Try.t9) (z := (Go.Proofs.Try.t9.zero).getD .nilIface) (cs := (zeroS ty9.zero).getD []) Go.Proofs.Try.underlying9 (by kernel_rfl) (by kernel_rfl) ⟨by kernel_rfl, by kernel_rfl⟩ (by kernel_rfl) (by kernel_rfl) (by kernel_rfl) (by kernel_rfl) (by kernel_rfl)
noncomputable def ty10 : TyI where
  td := .str
  size := 1
  bytes := 16
  zero := [.one (.str (⟨#[]⟩ : ByteArray))]
theorem ty10_ok : TyOk Go.Proofs.Try.prog 10 ty10 :=
  TyOk.of (f := Go.Proofs.Try.t10) (z := (Go.Proofs.Try.t10.zero).getD .nilIface) (cs := (zeroS ty10.zero).getD []) Go.Proofs.Try.underlying10 (by kernel_rfl) (by kernel_rfl) ⟨by kernel_rfl, by kernel_rfl⟩ (by kernel_rfl) (by kernel_rfl) (by kernel_rfl) (by kernel_rfl) (by kernel_rfl)
noncomputable def ty11 : TyI where
  td := .str
  size := 1
  bytes := 16
  zero := [.one (.str (⟨#[]⟩ : ByteArray))]
theorem ty11_ok : TyOk Go.Proofs.Try.prog 11 ty11 :=
  TyOk.of (f := Go.Proofs.Try.t11) (z := (Go.Proofs.Try.t11.zero).getD .nilIface) (cs := (zeroS ty11.zero).getD []) Go.Proofs.Try.underlying11 (by kernel_rfl) (by kernel_rfl) ⟨by kernel_rfl, by kernel_rfl⟩ (by kernel_rfl) (by kernel_rfl) (by kernel_rfl) (by kernel_rfl) (by kernel_rfl)
noncomputable def ty12 : TyI where
  td := .int .u64
  size := 1
  bytes := 8
  zero := [.xs (.int .u64) 1 [0]]
theorem ty12_ok : TyOk Go.Proofs.Try.prog 12 ty12 :=
  TyOk.of (f := Go.Proofs.Try.t12) (z := (Go.Proofs.Try.t12.zero).getD .nilIface) (cs := (zeroS ty12.zero).getD []) Go.Proofs.Try.underlying12 (by kernel_rfl) (by kernel_rfl) ⟨by kernel_rfl, by kernel_rfl⟩ (by kernel_rfl) (by kernel_rfl) (by kernel_rfl) (by kernel_rfl) (by kernel_rfl)
noncomputable def ty13 : TyI where
  td := .st [(0, 9), (1, 12)]
  size := 2
  bytes := 24
  zero := [.one (.str (⟨#[]⟩ : ByteArray)), .xs (.int .u64) 1 [0]]
theorem ty13_ok : TyOk Go.Proofs.Try.prog 13 ty13 :=
  TyOk.of (f := Go.Proofs.Try.t13) (z := (Go.Proofs.Try.t13.zero).getD .nilIface) (cs := (zeroS ty13.zero).getD []) Go.Proofs.Try.underlying13 (by kernel_rfl) (by kernel_rfl) ⟨by kernel_rfl, by kernel_rfl⟩ (by kernel_rfl) (by kernel_rfl) (by kernel_rfl) (by kernel_rfl) (by kernel_rfl)
noncomputable def ty14 : TyI where
  td := .st [(0, 9), (1, 12)]
  size := 2
  bytes := 24
  zero := [.one (.str (⟨#[]⟩ : ByteArray)), .xs (.int .u64) 1 [0]]
theorem ty14_ok : TyOk Go.Proofs.Try.prog 14 ty14 :=
  TyOk.of (f := Go.Proofs.Try.t14) (z := (Go.Proofs.Try.t14.zero).getD .nilIface) (cs := (zeroS ty14.zero).getD []) Go.Proofs.Try.underlying14 (by kernel_rfl) (by kernel_rfl) ⟨by kernel_rfl, by kernel_rfl⟩ (by kernel_rfl) (by kernel_rfl) (by kernel_rfl) (by kernel_rfl) (by kernel_rfl)
noncomputable def ty15 : TyI where
  td := .ptr 108
  size := 1
  bytes := 8
  zero := [.one (.nilp)]
theorem ty15_ok : TyOk Go.Proofs.Try.prog 15 ty15 :=
  TyOk.of (f := Go.Proofs.Try.t15) (z := (Go.Proofs.Try.t15.zero).getD .nilIface) (cs := (zeroS ty15.zero).getD []) Go.Proofs.Try.underlying15 (by kernel_rfl) (by kernel_rfl) ⟨by kernel_rfl, by kernel_rfl⟩ (by kernel_rfl) (by kernel_rfl) (by kernel_rfl) (by kernel_rfl) (by kernel_rfl)
noncomputable def ty16 : TyI where
  td := .ptr 111
  size := 1
  bytes := 8
  zero := [.one (.nilp)]
theorem ty16_ok : TyOk Go.Proofs.Try.prog 16 ty16 :=
  TyOk.of (f := Go.Proofs.Try.t16) (z := (Go.Proofs.Try.t16.zero).getD .nilIface) (cs := (zeroS ty16.zero).getD []) Go.Proofs.Try.underlying16 (by kernel_rfl) (by kernel_rfl) ⟨by kernel_rfl, by kernel_rfl⟩ (by kernel_rfl) (by kernel_rfl) (by kernel_rfl) (by kernel_rfl) (by kernel_rfl)
noncomputable def ty17 : TyI where
  td := .ptr 121
  size := 1
  bytes := 8
  zero := [.one (.nilp)]
theorem ty17_ok : TyOk Go.Proofs.Try.prog 17 ty17 :=
  TyOk.of (f := Go.Proofs.Try.t17) (z := (Go.Proofs.Try.t17.zero).getD .nilIface) (cs := (zeroS ty17.zero).getD []) Go.Proofs.Try.underlying17 (by kernel_rfl) (by kernel_rfl) ⟨by kernel_rfl, by kernel_rfl⟩ (by kernel_rfl) (by kernel_rfl) (by kernel_rfl) (by kernel_rfl) (by kernel_rfl)
noncomputable def ty18 : TyI where
  td := .st [(0, 17)]
  size := 1
  bytes := 8
  zero := [.one (.nilp)]
theorem ty18_ok : TyOk Go.Proofs.Try.prog 18 ty18 :=
  TyOk.of (f := Go.Proofs.Try.t18) (z := (Go.Proofs.Try.t18.zero).getD .nilIface) (cs := (zeroS ty18.zero).getD []) Go.Proofs.Try.underlying18 (by kernel_rfl) (by kernel_rfl) ⟨by kernel_rfl, by kernel_rfl⟩ (by kernel_rfl) (by kernel_rfl) (by kernel_rfl) (by kernel_rfl) (by kernel_rfl)
noncomputable def ty19 : TyI where
  td := .st [(0, 17)]
  size := 1
  bytes := 8
  zero := [.one (.nilp)]
theorem ty19_ok : TyOk Go.Proofs.Try.prog 19 ty19 :=
  TyOk.of (f := Go.Proofs.Try.t19) (z := (Go.Proofs.Try.t19.zero).getD .nilIface) (cs := (zeroS ty19.zero).getD []) Go.Proofs.Try.underlying19 (by kernel_rfl) (by kernel_rfl) ⟨by kernel_rfl, by kernel_rfl⟩ (by kernel_rfl) (by kernel_rfl) (by kernel_rfl) (by kernel_rfl) (by kernel_rfl)
noncomputable def ty21 : TyI where
  td := .int .i32
  size := 1
  bytes := 4
  zero := [.xs (.int .i32) 1 [0]]
theorem ty21_ok : TyOk Go.Proofs.Try.prog 21 ty21 :=
  TyOk.of (f := Go.Proofs.Try.t21) (z := (Go.Proofs.Try.t21.zero).getD .nilIface) (cs := (zeroS ty21.zero).getD []) Go.Proofs.Try.underlying21 (by kernel_rfl) (by kernel_rfl) ⟨by kernel_rfl, by kernel_rfl⟩ (by kernel_rfl) (by kernel_rfl) (by kernel_rfl) (by kernel_rfl) (by kernel_rfl)
noncomputable def ty22 : TyI where
  td := .arr 256 21
  size := 256
  bytes := 1024
  zero := [.xs (.int .i32) 256 (List.replicate 256 0)]
theorem ty22_ok : TyOk Go.Proofs.Try.prog 22 ty22 :=
  TyOk.of (f := Go.Proofs.Try.t22) (z := (Go.Proofs.Try.t22.zero).getD .nilIface) (cs := (zeroS ty22.zero).getD []) Go.Proofs.Try.underlying22 (by kernel_rfl) (by kernel_rfl) ⟨by kernel_rfl, by kernel_rfl⟩ (by kernel_rfl) (by kernel_rfl) (by kernel_rfl) (by kernel_rfl) (by kernel_rfl)
noncomputable def ty23 : TyI where
  td := .arr 256 21
  size := 256
  bytes := 1024
  zero := [.xs (.int .i32) 256 (List.replicate 256 0)]
theorem ty23_ok : TyOk Go.Proofs.Try.prog 23 ty23 :=
  TyOk.of (f := Go.Proofs.Try.t23) (z := (Go.Proofs.Try.t23.zero).getD .nilIface) (cs := (zeroS ty23.zero).getD []) Go.Proofs.Try.underlying23 (by kernel_rfl) (by kernel_rfl) ⟨by kernel_rfl, by kernel_rfl⟩ (by kernel_rfl) (by kernel_rfl) (by kernel_rfl) (by kernel_rfl) (by kernel_rfl)
noncomputable def ty30 : TyI where
  td := .arr 256 4
  size := 256
  bytes := 256
  zero := [.xs .bool 256 (List.replicate 256 0)]
theorem ty30_ok : TyOk Go.Proofs.Try.prog 30 ty30 :=
  TyOk.of (f := Go.Proofs.Try.t30) (z := (Go.Proofs.Try.t30.zero).getD .nilIface) (cs := (zeroS ty30.zero).getD []) Go.Proofs.Try.underlying30 (by kernel_rfl) (by kernel_rfl) ⟨by kernel_rfl, by kernel_rfl⟩ (by kernel_rfl) (by kernel_rfl) (by kernel_rfl) (by kernel_rfl) (by kernel_rfl)
noncomputable def ty31 : TyI where
  td := .arr 256 4
  size := 256
  bytes := 256
  zero := [.xs .bool 256 (List.replicate 256 0)]
theorem ty31_ok : TyOk Go.Proofs.Try.prog 31 ty31 :=
  TyOk.of (f := Go.Proofs.Try.t31) (z := (Go.Proofs.Try.t31.zero).getD .nilIface) (cs := (zeroS ty31.zero).getD []) Go.Proofs.Try.underlying31 (by kernel_rfl) (by kernel_rfl) ⟨by kernel_rfl, by kernel_rfl⟩ (by kernel_rfl) (by kernel_rfl) (by kernel_rfl) (by kernel_rfl) (by kernel_rfl)
noncomputable def ty38 : TyI where
  td := .sl 31
  size := 1
  bytes := 24
  zero := [.one (.nilsl)]
theorem ty38_ok : TyOk Go.Proofs.Try.prog 38 ty38 :=
  TyOk.of (f := Go.Proofs.Try.t38) (z := (Go.Proofs.Try.t38.zero).getD .nilIface) (cs := (zeroS ty38.zero).getD []) Go.Proofs.Try.underlying38 (by kernel_rfl) (by kernel_rfl) ⟨by kernel_rfl, by kernel_rfl⟩ (by kernel_rfl) (by kernel_rfl) (by kernel_rfl) (by kernel_rfl) (by kernel_rfl)
noncomputable def ty39 : TyI where
  td := .sl 5
  size := 1
  bytes := 24
  zero := [.one (.nilsl)]
theorem ty39_ok : TyOk Go.Proofs.Try.prog 39 ty39 :=
  TyOk.of (f := Go.Proofs.Try.t39) (z := (Go.Proofs.Try.t39.zero).getD .nilIface) (cs := (zeroS ty39.zero).getD []) Go.Proofs.Try.underlying39 (by kernel_rfl) (by kernel_rfl) ⟨by kernel_rfl, by kernel_rfl⟩ (by kernel_rfl) (by kernel_rfl) (by kernel_rfl) (by kernel_rfl) (by kernel_rfl)
noncomputable def ty40 : TyI where
  td := .int .i64
  size := 1
  bytes := 8
  zero := [.xs (.int .i64) 1 [0]]
theorem ty40_ok : TyOk Go.Proofs.Try.prog 40 ty40 :=
  TyOk.of (f := Go.Proofs.Try.t40) (z := (Go.Proofs.Try.t40.zero).getD .nilIface) (cs := (zeroS ty40.zero).getD []) Go.Proofs.Try.underlying40 (by kernel_rfl) (by kernel_rfl) ⟨by kernel_rfl, by kernel_rfl⟩ (by kernel_rfl) (by kernel_rfl) (by kernel_rfl) (by kernel_rfl) (by kernel_rfl)
noncomputable def ty50 : TyI where
  td := .sl 3
  size := 1
  bytes := 24
  zero := [.one (.nilsl)]
theorem ty50_ok : TyOk Go.Proofs.Try.prog 50 ty50 :=
  TyOk.of (f := Go.Proofs.Try.t50) (z := (Go.Proofs.Try.t50.zero).getD .nilIface) (cs := (zeroS ty50.zero).getD []) Go.Proofs.Try.underlying50 (by kernel_rfl) (by kernel_rfl) ⟨by kernel_rfl, by kernel_rfl⟩ (by kernel_rfl) (by kernel_rfl) (by kernel_rfl) (by kernel_rfl) (by kernel_rfl)
noncomputable def ty51 : TyI where
  td := .int .u64
  size := 1
  bytes := 8
  zero := [.xs (.int .u64) 1 [0]]
theorem ty51_ok : TyOk Go.Proofs.Try.prog 51 ty51 :=
  TyOk.of (f := Go.Proofs.Try.t51) (z := (Go.Proofs.Try.t51.zero).getD .nilIface) (cs := (zeroS ty51.zero).getD []) Go.Proofs.Try.underlying51 (by kernel_rfl) (by kernel_rfl) ⟨by kernel_rfl, by kernel_rfl⟩ (by kernel_rfl) (by kernel_rfl) (by kernel_rfl) (by kernel_rfl) (by kernel_rfl)
noncomputable def ty63 : TyI where
  td := .sl 2
  size := 1
  bytes := 24
  zero := [.one (.nilsl)]
theorem ty63_ok : TyOk Go.Proofs.Try.prog 63 ty63 :=
  TyOk.of (f := Go.Proofs.Try.t63) (z := (Go.Proofs.Try.t63.zero).getD .nilIface) (cs := (zeroS ty63.zero).getD []) Go.Proofs.Try.underlying63 (by kernel_rfl) (by kernel_rfl) ⟨by kernel_rfl, by kernel_rfl⟩ (by kernel_rfl) (by kernel_rfl) (by kernel_rfl) (by kernel_rfl) (by kernel_rfl)
noncomputable def ty66 : TyI where
  td := .arr 512 2
  size := 512
  bytes := 4096
  zero := [.xs (.int .i64) 512 (List.replicate 512 0)]
theorem ty66_ok : TyOk Go.Proofs.Try.prog 66 ty66 :=
  TyOk.of (f := Go.Proofs.Try.t66) (z := (Go.Proofs.Try.t66.zero).getD .nilIface) (cs := (zeroS ty66.zero).getD []) Go.Proofs.Try.underlying66 (by kernel_rfl) (by kernel_rfl) ⟨by kernel_rfl, by kernel_rfl⟩ (by kernel_rfl) (by kernel_rfl) (by kernel_rfl) (by kernel_rfl) (by kernel_rfl)
noncomputable def ty68 : TyI where
  td := .arr 2 5
  size := 2
  bytes := 2
  zero := [.xs (.int .u8) 2 (List.replicate 2 0)]
theorem ty68_ok : TyOk Go.Proofs.Try.prog 68 ty68 :=
  TyOk.of (f := Go.Proofs.Try.t68) (z := (Go.Proofs.Try.t68.zero).getD .nilIface) (cs := (zeroS ty68.zero).getD []) Go.Proofs.Try.underlying68 (by kernel_rfl) (by kernel_rfl) ⟨by kernel_rfl, by kernel_rfl⟩ (by kernel_rfl) (by kernel_rfl) (by kernel_rfl) (by kernel_rfl) (by kernel_rfl)
noncomputable def ty72 : TyI where
  td := .ptr 88
  size := 1
  bytes := 8
  zero := [.one (.nilp)]
theorem ty72_ok : TyOk Go.Proofs.Try.prog 72 ty72 :=
  TyOk.of (f := Go.Proofs.Try.t72) (z := (Go.Proofs.Try.t72.zero).getD .nilIface) (cs := (zeroS ty72.zero).getD []) Go.Proofs.Try.underlying72 (by kernel_rfl) (by kernel_rfl) ⟨by kernel_rfl, by kernel_rfl⟩ (by kernel_rfl) (by kernel_rfl) (by kernel_rfl) (by kernel_rfl) (by kernel_rfl)
noncomputable def ty77 : TyI where
  td := .sl 4
  size := 1
  bytes := 24
  zero := [.one (.nilsl)]
theorem ty77_ok : TyOk Go.Proofs.Try.prog 77 ty77 :=
  TyOk.of (f := Go.Proofs.Try.t77) (z := (Go.Proofs.Try.t77.zero).getD .nilIface) (cs := (zeroS ty77.zero).getD []) Go.Proofs.Try.underlying77 (by kernel_rfl) (by kernel_rfl) ⟨by kernel_rfl, by kernel_rfl⟩ (by kernel_rfl) (by kernel_rfl) (by kernel_rfl) (by kernel_rfl) (by kernel_rfl)
noncomputable def ty80 : TyI where
  td := .sl 39
  size := 1
  bytes := 24
  zero := [.one (.nilsl)]
theorem ty80_ok : TyOk Go.Proofs.Try.prog 80 ty80 :=
  TyOk.of (f := Go.Proofs.Try.t80) (z := (Go.Proofs.Try.t80.zero).getD .nilIface) (cs := (zeroS ty80.zero).getD []) Go.Proofs.Try.underlying80 (by kernel_rfl) (by kernel_rfl) ⟨by kernel_rfl, by kernel_rfl⟩ (by kernel_rfl) (by kernel_rfl) (by kernel_rfl) (by kernel_rfl) (by kernel_rfl)
noncomputable def ty83 : TyI where
  td := .int .u64
  size := 1
  bytes := 8
  zero := [.xs (.int .u64) 1 [0]]
theorem ty83_ok : TyOk Go.Proofs.Try.prog 83 ty83 :=
  TyOk.of (f := Go.Proofs.Try.t83) (z := (Go.Proofs.Try.t83.zero).getD .nilIface) (cs := (zeroS ty83.zero).getD []) Go.Proofs.Try.underlying83 (by kernel_rfl) (by kernel_rfl) ⟨by kernel_rfl, by kernel_rfl⟩ (by kernel_rfl) (by kernel_rfl) (by kernel_rfl) (by kernel_rfl) (by kernel_rfl)
noncomputable def ty84 : TyI where
  td := .arr 25 83
  size := 25
  bytes := 200
  zero := [.xs (.int .u64) 25 (List.replicate 25 0)]
theorem ty84_ok : TyOk Go.Proofs.Try.prog 84 ty84 :=
  TyOk.of (f := Go.Proofs.Try.t84) (z := (Go.Proofs.Try.t84.zero).getD .nilIface) (cs := (zeroS ty84.zero).getD []) Go.Proofs.Try.underlying84 (by kernel_rfl) (by kernel_rfl) ⟨by kernel_rfl, by kernel_rfl⟩ (by kernel_rfl) (by kernel_rfl) (by kernel_rfl) (by kernel_rfl) (by kernel_rfl)
noncomputable def ty85 : TyI where
  td := .st [(0, 84), (25, 3), (26, 3)]
  size := 27
  bytes := 216
  zero := [.xs (.int .u64) 25 (List.replicate 25 0), .xs (.int .i64) 1 [0], .xs (.int .i64) 1 [0]]
theorem ty85_ok : TyOk Go.Proofs.Try.prog 85 ty85 :=
  TyOk.of (f := Go.Proofs.Try.t85) (z := (Go.Proofs.Try.t85.zero).getD .nilIface) (cs := (zeroS ty85.zero).getD []) Go.Proofs.Try.underlying85 (by kernel_rfl) (by kernel_rfl) ⟨by kernel_rfl, by kernel_rfl⟩ (by kernel_rfl) (by kernel_rfl) (by kernel_rfl) (by kernel_rfl) (by kernel_rfl)
noncomputable def ty86 : TyI where
  td := .st [(0, 84), (25, 3), (26, 3)]
  size := 27
  bytes := 216
  zero := [.xs (.int .u64) 25 (List.replicate 25 0), .xs (.int .i64) 1 [0], .xs (.int .i64) 1 [0]]
theorem ty86_ok : TyOk Go.Proofs.Try.prog 86 ty86 :=
  TyOk.of (f := Go.Proofs.Try.t86) (z := (Go.Proofs.Try.t86.zero).getD .nilIface) (cs := (zeroS ty86.zero).getD []) Go.Proofs.Try.underlying86 (by kernel_rfl) (by kernel_rfl) ⟨by kernel_rfl, by kernel_rfl⟩ (by kernel_rfl) (by kernel_rfl) (by kernel_rfl) (by kernel_rfl) (by kernel_rfl)
noncomputable def ty87 : TyI where
  td := .st [(0, 4), (1, 86), (28, 3)]
  size := 29
  bytes := 232
  zero := [.xs .bool 1 [0], .xs (.int .u64) 25 (List.replicate 25 0), .xs (.int .i64) 1 [0], .xs (.int .i64) 1 [0], .xs (.int .i64) 1 [0]]
theorem ty87_ok : TyOk Go.Proofs.Try.prog 87 ty87 :=
  TyOk.of (f := Go.Proofs.Try.t87) (z := (Go.Proofs.Try.t87.zero).getD .nilIface) (cs := (zeroS ty87.zero).getD []) Go.Proofs.Try.underlying87 (by kernel_rfl) (by kernel_rfl) ⟨by kernel_rfl, by kernel_rfl⟩ (by kernel_rfl) (by kernel_rfl) (by kernel_rfl) (by kernel_rfl) (by kernel_rfl)
noncomputable def ty88 : TyI where
  td := .st [(0, 4), (1, 86), (28, 3)]
  size := 29
  bytes := 232
  zero := [.xs .bool 1 [0], .xs (.int .u64) 25 (List.replicate 25 0), .xs (.int .i64) 1 [0], .xs (.int .i64) 1 [0], .xs (.int .i64) 1 [0]]
theorem ty88_ok : TyOk Go.Proofs.Try.prog 88 ty88 :=
  TyOk.of (f := Go.Proofs.Try.t88) (z := (Go.Proofs.Try.t88.zero).getD .nilIface) (cs := (zeroS ty88.zero).getD []) Go.Proofs.Try.underlying88 (by kernel_rfl) (by kernel_rfl) ⟨by kernel_rfl, by kernel_rfl⟩ (by kernel_rfl) (by kernel_rfl) (by kernel_rfl) (by kernel_rfl) (by kernel_rfl)
noncomputable def ty92 : TyI where
  td := .ptr 86
  size := 1
  bytes := 8
  zero := [.one (.nilp)]
theorem ty92_ok : TyOk Go.Proofs.Try.prog 92 ty92 :=
  TyOk.of (f := Go.Proofs.Try.t92) (z := (Go.Proofs.Try.t92.zero).getD .nilIface) (cs := (zeroS ty92.zero).getD []) Go.Proofs.Try.underlying92 (by kernel_rfl) (by kernel_rfl) ⟨by kernel_rfl, by kernel_rfl⟩ (by kernel_rfl) (by kernel_rfl) (by kernel_rfl) (by kernel_rfl) (by kernel_rfl)
noncomputable def ty97 : TyI where
  td := .arr 25 3
  size := 25
  bytes := 200
  zero := [.xs (.int .i64) 25 (List.replicate 25 0)]
theorem ty97_ok : TyOk Go.Proofs.Try.prog 97 ty97 :=
  TyOk.of (f := Go.Proofs.Try.t97) (z := (Go.Proofs.Try.t97.zero).getD .nilIface) (cs := (zeroS ty97.zero).getD []) Go.Proofs.Try.underlying97 (by kernel_rfl) (by kernel_rfl) ⟨by kernel_rfl, by kernel_rfl⟩ (by kernel_rfl) (by kernel_rfl) (by kernel_rfl) (by kernel_rfl) (by kernel_rfl)
noncomputable def ty99 : TyI where
  td := .arr 24 83
  size := 24
  bytes := 192
  zero := [.xs (.int .u64) 24 (List.replicate 24 0)]
theorem ty99_ok : TyOk Go.Proofs.Try.prog 99 ty99 :=
  TyOk.of (f := Go.Proofs.Try.t99) (z := (Go.Proofs.Try.t99.zero).getD .nilIface) (cs := (zeroS ty99.zero).getD []) Go.Proofs.Try.underlying99 (by kernel_rfl) (by kernel_rfl) ⟨by kernel_rfl, by kernel_rfl⟩ (by kernel_rfl) (by kernel_rfl) (by kernel_rfl) (by kernel_rfl) (by kernel_rfl)
noncomputable def ty102 : TyI where
  td := .ptr 97
  size := 1
  bytes := 8
  zero := [.one (.nilp)]
theorem ty102_ok : TyOk Go.Proofs.Try.prog 102 ty102 :=
  TyOk.of (f := Go.Proofs.Try.t102) (z := (Go.Proofs.Try.t102.zero).getD .nilIface) (cs := (zeroS ty102.zero).getD []) Go.Proofs.Try.underlying102 (by kernel_rfl) (by kernel_rfl) ⟨by kernel_rfl, by kernel_rfl⟩ (by kernel_rfl) (by kernel_rfl) (by kernel_rfl) (by kernel_rfl) (by kernel_rfl)
noncomputable def ty104 : TyI where
  td := .arr 5 83
  size := 5
  bytes := 40
  zero := [.xs (.int .u64) 5 (List.replicate 5 0)]
theorem ty104_ok : TyOk Go.Proofs.Try.prog 104 ty104 :=
  TyOk.of (f := Go.Proofs.Try.t104) (z := (Go.Proofs.Try.t104.zero).getD .nilIface) (cs := (zeroS ty104.zero).getD []) Go.Proofs.Try.underlying104 (by kernel_rfl) (by kernel_rfl) ⟨by kernel_rfl, by kernel_rfl⟩ (by kernel_rfl) (by kernel_rfl) (by kernel_rfl) (by kernel_rfl) (by kernel_rfl)
noncomputable def ty107 : TyI where
  td := .st [(0, 17), (1, 17), (2, 17), (3, 9)]
  size := 4
  bytes := 40
  zero := [.one (.nilp), .one (.nilp), .one (.nilp), .one (.str (⟨#[]⟩ : ByteArray))]
theorem ty107_ok : TyOk Go.Proofs.Try.prog 107 ty107 :=
  TyOk.of (f := Go.Proofs.Try.t107) (z := (Go.Proofs.Try.t107.zero).getD .nilIface) (cs := (zeroS ty107.zero).getD []) Go.Proofs.Try.underlying107 (by kernel_rfl) (by kernel_rfl) ⟨by kernel_rfl, by kernel_rfl⟩ (by kernel_rfl) (by kernel_rfl) (by kernel_rfl) (by kernel_rfl) (by kernel_rfl)
noncomputable def ty108 : TyI where
  td := .st [(0, 17), (1, 17), (2, 17), (3, 9)]
  size := 4
  bytes := 40
  zero := [.one (.nilp), .one (.nilp), .one (.nilp), .one (.str (⟨#[]⟩ : ByteArray))]
theorem ty108_ok : TyOk Go.Proofs.Try.prog 108 ty108 :=
  TyOk.of (f := Go.Proofs.Try.t108) (z := (Go.Proofs.Try.t108.zero).getD .nilIface) (cs := (zeroS ty108.zero).getD []) Go.Proofs.Try.underlying108 (by kernel_rfl) (by kernel_rfl) ⟨by kernel_rfl, by kernel_rfl⟩ (by kernel_rfl) (by kernel_rfl) (by kernel_rfl) (by kernel_rfl) (by kernel_rfl)
noncomputable def ty109 : TyI where
  td := .arr 0 16
  size := 0
  bytes := 0
  zero := []
theorem ty109_ok : TyOk Go.Proofs.Try.prog 109 ty109 :=
  TyOk.of (f := Go.Proofs.Try.t109) (z := (Go.Proofs.Try.t109.zero).getD .nilIface) (cs := (zeroS ty109.zero).getD []) Go.Proofs.Try.underlying109 (by kernel_rfl) (by kernel_rfl) ⟨by kernel_rfl, by kernel_rfl⟩ (by kernel_rfl) (by kernel_rfl) (by kernel_rfl) (by kernel_rfl) (by kernel_rfl)
noncomputable def ty110 : TyI where
  td := .st [(0, 109)]
  size := 0
  bytes := 0
  zero := []
theorem ty110_ok : TyOk Go.Proofs.Try.prog 110 ty110 :=
  TyOk.of (f := Go.Proofs.Try.t110) (z := (Go.Proofs.Try.t110.zero).getD .nilIface) (cs := (zeroS ty110.zero).getD []) Go.Proofs.Try.underlying110 (by kernel_rfl) (by kernel_rfl) ⟨by kernel_rfl, by kernel_rfl⟩ (by kernel_rfl) (by kernel_rfl) (by kernel_rfl) (by kernel_rfl) (by kernel_rfl)
noncomputable def ty111 : TyI where
  td := .st [(0, 109)]
  size := 0
  bytes := 0
  zero := []
theorem ty111_ok : TyOk Go.Proofs.Try.prog 111 ty111 :=
  TyOk.of (f := Go.Proofs.Try.t111) (z := (Go.Proofs.Try.t111.zero).getD .nilIface) (cs := (zeroS ty111.zero).getD []) Go.Proofs.Try.underlying111 (by kernel_rfl) (by kernel_rfl) ⟨by kernel_rfl, by kernel_rfl⟩ (by kernel_rfl) (by kernel_rfl) (by kernel_rfl) (by kernel_rfl) (by kernel_rfl)
noncomputable def ty113 : TyI where
  td := .int .u32
  size := 1
  bytes := 4
  zero := [.xs (.int .u32) 1 [0]]
theorem ty113_ok : TyOk Go.Proofs.Try.prog 113 ty113 :=
  TyOk.of (f := Go.Proofs.Try.t113) (z := (Go.Proofs.Try.t113.zero).getD .nilIface) (cs := (zeroS ty113.zero).getD []) Go.Proofs.Try.underlying113 (by kernel_rfl) (by kernel_rfl) ⟨by kernel_rfl, by kernel_rfl⟩ (by kernel_rfl) (by kernel_rfl) (by kernel_rfl) (by kernel_rfl) (by kernel_rfl)
noncomputable def ty114 : TyI where
  td := .int .u8
  size := 1
  bytes := 1
  zero := [.xs (.int .u8) 1 [0]]
theorem ty114_ok : TyOk Go.Proofs.Try.prog 114 ty114 :=
  TyOk.of (f := Go.Proofs.Try.t114) (z := (Go.Proofs.Try.t114.zero).getD .nilIface) (cs := (zeroS ty114.zero).getD []) Go.Proofs.Try.underlying114 (by kernel_rfl) (by kernel_rfl) ⟨by kernel_rfl, by kernel_rfl⟩ (by kernel_rfl) (by kernel_rfl) (by kernel_rfl) (by kernel_rfl) (by kernel_rfl)
noncomputable def ty115 : TyI where
  td := .int .u8
  size := 1
  bytes := 1
  zero := [.xs (.int .u8) 1 [0]]
theorem ty115_ok : TyOk Go.Proofs.Try.prog 115 ty115 :=
  TyOk.of (f := Go.Proofs.Try.t115) (z := (Go.Proofs.Try.t115.zero).getD .nilIface) (cs := (zeroS ty115.zero).getD []) Go.Proofs.Try.underlying115 (by kernel_rfl) (by kernel_rfl) ⟨by kernel_rfl, by kernel_rfl⟩ (by kernel_rfl) (by kernel_rfl) (by kernel_rfl) (by kernel_rfl) (by kernel_rfl)
noncomputable def ty117 : TyI where
  td := .ptr 5
  size := 1
  bytes := 8
  zero := [.one (.nilp)]
theorem ty117_ok : TyOk Go.Proofs.Try.prog 117 ty117 :=
  TyOk.of (f := Go.Proofs.Try.t117) (z := (Go.Proofs.Try.t117.zero).getD .nilIface) (cs := (zeroS ty117.zero).getD []) Go.Proofs.Try.underlying117 (by kernel_rfl) (by kernel_rfl) ⟨by kernel_rfl, by kernel_rfl⟩ (by kernel_rfl) (by kernel_rfl) (by kernel_rfl) (by kernel_rfl) (by kernel_rfl)
noncomputable def ty118 : TyI where
  td := .int .i32
  size := 1
  bytes := 4
  zero := [.xs (.int .i32) 1 [0]]
theorem ty118_ok : TyOk Go.Proofs.Try.prog 118 ty118 :=
  TyOk.of (f := Go.Proofs.Try.t118) (z := (Go.Proofs.Try.t118.zero).getD .nilIface) (cs := (zeroS ty118.zero).getD []) Go.Proofs.Try.underlying118 (by kernel_rfl) (by kernel_rfl) ⟨by kernel_rfl, by kernel_rfl⟩ (by kernel_rfl) (by kernel_rfl) (by kernel_rfl) (by kernel_rfl) (by kernel_rfl)
noncomputable def ty119 : TyI where
  td := .int .i32
  size := 1
  bytes := 4
  zero := [.xs (.int .i32) 1 [0]]
theorem ty119_ok : TyOk Go.Proofs.Try.prog 119 ty119 :=
  TyOk.of (f := Go.Proofs.Try.t119) (z := (Go.Proofs.Try.t119.zero).getD .nilIface) (cs := (zeroS ty119.zero).getD []) Go.Proofs.Try.underlying119 (by kernel_rfl) (by kernel_rfl) ⟨by kernel_rfl, by kernel_rfl⟩ (by kernel_rfl) (by kernel_rfl) (by kernel_rfl) (by kernel_rfl) (by kernel_rfl)
theorem enters_law15_DringRounds : Enters Go.Proofs.Try.prog 3 := ⟨Go.Proofs.Try.f3, Go.Proofs.Try.func3, by kernel_rfl, by kernel_rfl⟩
theorem enters_law15_DringParts : Enters Go.Proofs.Try.prog 4 := ⟨Go.Proofs.Try.f4, Go.Proofs.Try.func4, by kernel_rfl, by kernel_rfl⟩
theorem enters_law15_DringHints : Enters Go.Proofs.Try.prog 5 := ⟨Go.Proofs.Try.f5, Go.Proofs.Try.func5, by kernel_rfl, by kernel_rfl⟩
theorem enters_law15_DringMends : Enters Go.Proofs.Try.prog 6 := ⟨Go.Proofs.Try.f6, Go.Proofs.Try.func6, by kernel_rfl, by kernel_rfl⟩
theorem enters_law15_DringPlaces : Enters Go.Proofs.Try.prog 7 := ⟨Go.Proofs.Try.f7, Go.Proofs.Try.func7, by kernel_rfl, by kernel_rfl⟩
theorem enters_law15_DringNtts : Enters Go.Proofs.Try.prog 8 := ⟨Go.Proofs.Try.f8, Go.Proofs.Try.func8, by kernel_rfl, by kernel_rfl⟩
theorem enters_law15_DringTurns : Enters Go.Proofs.Try.prog 9 := ⟨Go.Proofs.Try.f9, Go.Proofs.Try.func9, by kernel_rfl, by kernel_rfl⟩
theorem enters_law15_DringSums : Enters Go.Proofs.Try.prog 10 := ⟨Go.Proofs.Try.f10, Go.Proofs.Try.func10, by kernel_rfl, by kernel_rfl⟩
theorem enters_law15_DringSmall : Enters Go.Proofs.Try.prog 11 := ⟨Go.Proofs.Try.f11, Go.Proofs.Try.func11, by kernel_rfl, by kernel_rfl⟩
theorem enters_law15_DringSamples : Enters Go.Proofs.Try.prog 12 := ⟨Go.Proofs.Try.f12, Go.Proofs.Try.func12, by kernel_rfl, by kernel_rfl⟩
theorem enters_dring_Power2Round : Enters Go.Proofs.Try.prog 13 := ⟨Go.Proofs.Try.f13, Go.Proofs.Try.func13, by kernel_rfl, by kernel_rfl⟩
theorem enters_ref15_Power2Round : Enters Go.Proofs.Try.prog 14 := ⟨Go.Proofs.Try.f14, Go.Proofs.Try.func14, by kernel_rfl, by kernel_rfl⟩
theorem enters_dring_Decompose : Enters Go.Proofs.Try.prog 15 := ⟨Go.Proofs.Try.f15, Go.Proofs.Try.func15, by kernel_rfl, by kernel_rfl⟩
theorem enters_ref15_Decompose : Enters Go.Proofs.Try.prog 16 := ⟨Go.Proofs.Try.f16, Go.Proofs.Try.func16, by kernel_rfl, by kernel_rfl⟩
theorem enters_law15_live : Enters Go.Proofs.Try.prog 17 := ⟨Go.Proofs.Try.f17, Go.Proofs.Try.func17, by kernel_rfl, by kernel_rfl⟩
theorem enters_dring_Reduce : Enters Go.Proofs.Try.prog 18 := ⟨Go.Proofs.Try.f18, Go.Proofs.Try.func18, by kernel_rfl, by kernel_rfl⟩
theorem enters_dring_Norm : Enters Go.Proofs.Try.prog 19 := ⟨Go.Proofs.Try.f19, Go.Proofs.Try.func19, by kernel_rfl, by kernel_rfl⟩
theorem enters_dring_MakeHint : Enters Go.Proofs.Try.prog 20 := ⟨Go.Proofs.Try.f20, Go.Proofs.Try.func20, by kernel_rfl, by kernel_rfl⟩
theorem enters_ref15_MakeHint : Enters Go.Proofs.Try.prog 21 := ⟨Go.Proofs.Try.f21, Go.Proofs.Try.func21, by kernel_rfl, by kernel_rfl⟩
theorem enters_dring_UseHint : Enters Go.Proofs.Try.prog 22 := ⟨Go.Proofs.Try.f22, Go.Proofs.Try.func22, by kernel_rfl, by kernel_rfl⟩
theorem enters_ref15_UseHint : Enters Go.Proofs.Try.prog 23 := ⟨Go.Proofs.Try.f23, Go.Proofs.Try.func23, by kernel_rfl, by kernel_rfl⟩
theorem enters_dring_Add : Enters Go.Proofs.Try.prog 24 := ⟨Go.Proofs.Try.f24, Go.Proofs.Try.func24, by kernel_rfl, by kernel_rfl⟩
theorem enters_dring_PackHints : Enters Go.Proofs.Try.prog 25 := ⟨Go.Proofs.Try.f25, Go.Proofs.Try.func25, by kernel_rfl, by kernel_rfl⟩
theorem enters_ref15_PackHints : Enters Go.Proofs.Try.prog 26 := ⟨Go.Proofs.Try.f26, Go.Proofs.Try.func26, by kernel_rfl, by kernel_rfl⟩
theorem enters_dring_UnpackHints : Enters Go.Proofs.Try.prog 27 := ⟨Go.Proofs.Try.f27, Go.Proofs.Try.func27, by kernel_rfl, by kernel_rfl⟩
theorem enters_ref15_UnpackHints : Enters Go.Proofs.Try.prog 28 := ⟨Go.Proofs.Try.f28, Go.Proofs.Try.func28, by kernel_rfl, by kernel_rfl⟩
theorem enters_ref01_Equal : Enters Go.Proofs.Try.prog 29 := ⟨Go.Proofs.Try.f29, Go.Proofs.Try.func29, by kernel_rfl, by kernel_rfl⟩
theorem enters_law15_same : Enters Go.Proofs.Try.prog 30 := ⟨Go.Proofs.Try.f30, Go.Proofs.Try.func30, by kernel_rfl, by kernel_rfl⟩
theorem enters_dring_Ntt : Enters Go.Proofs.Try.prog 31 := ⟨Go.Proofs.Try.f31, Go.Proofs.Try.func31, by kernel_rfl, by kernel_rfl⟩
theorem enters_ref15_Direct : Enters Go.Proofs.Try.prog 32 := ⟨Go.Proofs.Try.f32, Go.Proofs.Try.func32, by kernel_rfl, by kernel_rfl⟩
theorem enters_ref15_Ntt : Enters Go.Proofs.Try.prog 33 := ⟨Go.Proofs.Try.f33, Go.Proofs.Try.func33, by kernel_rfl, by kernel_rfl⟩
theorem enters_dring_Inv : Enters Go.Proofs.Try.prog 34 := ⟨Go.Proofs.Try.f34, Go.Proofs.Try.func34, by kernel_rfl, by kernel_rfl⟩
theorem enters_ref15_Inv : Enters Go.Proofs.Try.prog 35 := ⟨Go.Proofs.Try.f35, Go.Proofs.Try.func35, by kernel_rfl, by kernel_rfl⟩
theorem enters_dring_MulNtt : Enters Go.Proofs.Try.prog 36 := ⟨Go.Proofs.Try.f36, Go.Proofs.Try.func36, by kernel_rfl, by kernel_rfl⟩
theorem enters_ref15_MulNtt : Enters Go.Proofs.Try.prog 37 := ⟨Go.Proofs.Try.f37, Go.Proofs.Try.func37, by kernel_rfl, by kernel_rfl⟩
theorem enters_dring_Mul : Enters Go.Proofs.Try.prog 38 := ⟨Go.Proofs.Try.f38, Go.Proofs.Try.func38, by kernel_rfl, by kernel_rfl⟩
theorem enters_dring_Sub : Enters Go.Proofs.Try.prog 39 := ⟨Go.Proofs.Try.f39, Go.Proofs.Try.func39, by kernel_rfl, by kernel_rfl⟩
theorem enters_ref15_Reduce : Enters Go.Proofs.Try.prog 40 := ⟨Go.Proofs.Try.f40, Go.Proofs.Try.func40, by kernel_rfl, by kernel_rfl⟩
theorem enters_dring_Center : Enters Go.Proofs.Try.prog 41 := ⟨Go.Proofs.Try.f41, Go.Proofs.Try.func41, by kernel_rfl, by kernel_rfl⟩
theorem enters_ref15_Center : Enters Go.Proofs.Try.prog 42 := ⟨Go.Proofs.Try.f42, Go.Proofs.Try.func42, by kernel_rfl, by kernel_rfl⟩
theorem enters_ref15_Norm : Enters Go.Proofs.Try.prog 43 := ⟨Go.Proofs.Try.f43, Go.Proofs.Try.func43, by kernel_rfl, by kernel_rfl⟩
theorem enters_ref15_Add : Enters Go.Proofs.Try.prog 44 := ⟨Go.Proofs.Try.f44, Go.Proofs.Try.func44, by kernel_rfl, by kernel_rfl⟩
theorem enters_ref15_Sub : Enters Go.Proofs.Try.prog 45 := ⟨Go.Proofs.Try.f45, Go.Proofs.Try.func45, by kernel_rfl, by kernel_rfl⟩
theorem enters_ref15_Mul : Enters Go.Proofs.Try.prog 46 := ⟨Go.Proofs.Try.f46, Go.Proofs.Try.func46, by kernel_rfl, by kernel_rfl⟩
theorem enters_dring_Ball : Enters Go.Proofs.Try.prog 47 := ⟨Go.Proofs.Try.f47, Go.Proofs.Try.func47, by kernel_rfl, by kernel_rfl⟩
theorem enters_dring_RejBounded : Enters Go.Proofs.Try.prog 48 := ⟨Go.Proofs.Try.f48, Go.Proofs.Try.func48, by kernel_rfl, by kernel_rfl⟩
theorem enters_dring_Mask : Enters Go.Proofs.Try.prog 49 := ⟨Go.Proofs.Try.f49, Go.Proofs.Try.func49, by kernel_rfl, by kernel_rfl⟩
theorem enters_dring_RejNtt : Enters Go.Proofs.Try.prog 50 := ⟨Go.Proofs.Try.f50, Go.Proofs.Try.func50, by kernel_rfl, by kernel_rfl⟩
theorem enters_ref15_RejNtt : Enters Go.Proofs.Try.prog 51 := ⟨Go.Proofs.Try.f51, Go.Proofs.Try.func51, by kernel_rfl, by kernel_rfl⟩
theorem enters_ref15_RejBounded : Enters Go.Proofs.Try.prog 52 := ⟨Go.Proofs.Try.f52, Go.Proofs.Try.func52, by kernel_rfl, by kernel_rfl⟩
theorem enters_ref15_Mask : Enters Go.Proofs.Try.prog 53 := ⟨Go.Proofs.Try.f53, Go.Proofs.Try.func53, by kernel_rfl, by kernel_rfl⟩
theorem enters_ref15_Ball : Enters Go.Proofs.Try.prog 54 := ⟨Go.Proofs.Try.f54, Go.Proofs.Try.func54, by kernel_rfl, by kernel_rfl⟩
theorem enters_dring_near : Enters Go.Proofs.Try.prog 55 := ⟨Go.Proofs.Try.f55, Go.Proofs.Try.func55, by kernel_rfl, by kernel_rfl⟩
theorem enters_dring_parts : Enters Go.Proofs.Try.prog 56 := ⟨Go.Proofs.Try.f56, Go.Proofs.Try.func56, by kernel_rfl, by kernel_rfl⟩
theorem enters_dring_each : Enters Go.Proofs.Try.prog 57 := ⟨Go.Proofs.Try.f57, Go.Proofs.Try.func57, by kernel_rfl, by kernel_rfl⟩
theorem enters_dring_Reduce_1 : Enters Go.Proofs.Try.prog 58 := ⟨Go.Proofs.Try.f58, Go.Proofs.Try.func58, by kernel_rfl, by kernel_rfl⟩
theorem enters_dring_below : Enters Go.Proofs.Try.prog 59 := ⟨Go.Proofs.Try.f59, Go.Proofs.Try.func59, by kernel_rfl, by kernel_rfl⟩
theorem enters_dring_powers : Enters Go.Proofs.Try.prog 60 := ⟨Go.Proofs.Try.f60, Go.Proofs.Try.func60, by kernel_rfl, by kernel_rfl⟩
theorem enters_dring_times : Enters Go.Proofs.Try.prog 61 := ⟨Go.Proofs.Try.f61, Go.Proofs.Try.func61, by kernel_rfl, by kernel_rfl⟩
theorem enters_ref15_power : Enters Go.Proofs.Try.prog 62 := ⟨Go.Proofs.Try.f62, Go.Proofs.Try.func62, by kernel_rfl, by kernel_rfl⟩
theorem enters_ref15_split : Enters Go.Proofs.Try.prog 63 := ⟨Go.Proofs.Try.f63, Go.Proofs.Try.func63, by kernel_rfl, by kernel_rfl⟩
theorem enters_dring_Inv_1 : Enters Go.Proofs.Try.prog 64 := ⟨Go.Proofs.Try.f64, Go.Proofs.Try.func64, by kernel_rfl, by kernel_rfl⟩
theorem enters_ref15_join : Enters Go.Proofs.Try.prog 65 := ⟨Go.Proofs.Try.f65, Go.Proofs.Try.func65, by kernel_rfl, by kernel_rfl⟩
theorem enters_ref15_mod : Enters Go.Proofs.Try.prog 66 := ⟨Go.Proofs.Try.f66, Go.Proofs.Try.func66, by kernel_rfl, by kernel_rfl⟩
theorem enters_dring_centred : Enters Go.Proofs.Try.prog 67 := ⟨Go.Proofs.Try.f67, Go.Proofs.Try.func67, by kernel_rfl, by kernel_rfl⟩
theorem enters_ref15_size : Enters Go.Proofs.Try.prog 68 := ⟨Go.Proofs.Try.f68, Go.Proofs.Try.func68, by kernel_rfl, by kernel_rfl⟩
theorem enters_keccak_Shake : Enters Go.Proofs.Try.prog 69 := ⟨Go.Proofs.Try.f69, Go.Proofs.Try.func69, by kernel_rfl, by kernel_rfl⟩
theorem enters_dring_half : Enters Go.Proofs.Try.prog 70 := ⟨Go.Proofs.Try.f70, Go.Proofs.Try.func70, by kernel_rfl, by kernel_rfl⟩
theorem enters_dring_UnpackFrom : Enters Go.Proofs.Try.prog 71 := ⟨Go.Proofs.Try.f71, Go.Proofs.Try.func71, by kernel_rfl, by kernel_rfl⟩
theorem enters_keccak_Shake128 : Enters Go.Proofs.Try.prog 72 := ⟨Go.Proofs.Try.f72, Go.Proofs.Try.func72, by kernel_rfl, by kernel_rfl⟩
theorem enters_keccak_Xof_Read : Enters Go.Proofs.Try.prog 73 := ⟨Go.Proofs.Try.f73, Go.Proofs.Try.func73, by kernel_rfl, by kernel_rfl⟩
theorem enters_ref03_Shake : Enters Go.Proofs.Try.prog 74 := ⟨Go.Proofs.Try.f74, Go.Proofs.Try.func74, by kernel_rfl, by kernel_rfl⟩
theorem enters_ref15_UnpackFrom : Enters Go.Proofs.Try.prog 75 := ⟨Go.Proofs.Try.f75, Go.Proofs.Try.func75, by kernel_rfl, by kernel_rfl⟩
theorem enters_ref15_width : Enters Go.Proofs.Try.prog 76 := ⟨Go.Proofs.Try.f76, Go.Proofs.Try.func76, by kernel_rfl, by kernel_rfl⟩
theorem enters_ref01_Bits : Enters Go.Proofs.Try.prog 77 := ⟨Go.Proofs.Try.f77, Go.Proofs.Try.func77, by kernel_rfl, by kernel_rfl⟩
theorem enters_bits_Reverse8 : Enters Go.Proofs.Try.prog 78 := ⟨Go.Proofs.Try.f78, Go.Proofs.Try.func78, by kernel_rfl, by kernel_rfl⟩
theorem enters_keccak_may : Enters Go.Proofs.Try.prog 79 := ⟨Go.Proofs.Try.f79, Go.Proofs.Try.func79, by kernel_rfl, by kernel_rfl⟩
theorem enters_keccak_Shake256 : Enters Go.Proofs.Try.prog 80 := ⟨Go.Proofs.Try.f80, Go.Proofs.Try.func80, by kernel_rfl, by kernel_rfl⟩
theorem enters_dring_Unpack : Enters Go.Proofs.Try.prog 81 := ⟨Go.Proofs.Try.f81, Go.Proofs.Try.func81, by kernel_rfl, by kernel_rfl⟩
theorem enters_dring_UnpackFrom_1 : Enters Go.Proofs.Try.prog 82 := ⟨Go.Proofs.Try.f82, Go.Proofs.Try.func82, by kernel_rfl, by kernel_rfl⟩
theorem enters_keccak_started : Enters Go.Proofs.Try.prog 83 := ⟨Go.Proofs.Try.f83, Go.Proofs.Try.func83, by kernel_rfl, by kernel_rfl⟩
theorem enters_keccak_Xof_none : Enters Go.Proofs.Try.prog 84 := ⟨Go.Proofs.Try.f84, Go.Proofs.Try.func84, by kernel_rfl, by kernel_rfl⟩
theorem enters_keccak_sponge_gives : Enters Go.Proofs.Try.prog 85 := ⟨Go.Proofs.Try.f85, Go.Proofs.Try.func85, by kernel_rfl, by kernel_rfl⟩
theorem enters_ref03_Sponge : Enters Go.Proofs.Try.prog 86 := ⟨Go.Proofs.Try.f86, Go.Proofs.Try.func86, by kernel_rfl, by kernel_rfl⟩
theorem enters_ref15_Unpack : Enters Go.Proofs.Try.prog 87 := ⟨Go.Proofs.Try.f87, Go.Proofs.Try.func87, by kernel_rfl, by kernel_rfl⟩
theorem enters_keccak_sponge_takes : Enters Go.Proofs.Try.prog 88 := ⟨Go.Proofs.Try.f88, Go.Proofs.Try.func88, by kernel_rfl, by kernel_rfl⟩
theorem enters_keccak_Permute : Enters Go.Proofs.Try.prog 89 := ⟨Go.Proofs.Try.f89, Go.Proofs.Try.func89, by kernel_rfl, by kernel_rfl⟩
theorem enters_ref01_Join : Enters Go.Proofs.Try.prog 90 := ⟨Go.Proofs.Try.f90, Go.Proofs.Try.func90, by kernel_rfl, by kernel_rfl⟩
theorem enters_ref03_Permute : Enters Go.Proofs.Try.prog 91 := ⟨Go.Proofs.Try.f91, Go.Proofs.Try.func91, by kernel_rfl, by kernel_rfl⟩
theorem enters_ref03_bytes : Enters Go.Proofs.Try.prog 92 := ⟨Go.Proofs.Try.f92, Go.Proofs.Try.func92, by kernel_rfl, by kernel_rfl⟩
theorem enters_keccak_sponge_put : Enters Go.Proofs.Try.prog 93 := ⟨Go.Proofs.Try.f93, Go.Proofs.Try.func93, by kernel_rfl, by kernel_rfl⟩
theorem enters_keccak_offsets : Enters Go.Proofs.Try.prog 94 := ⟨Go.Proofs.Try.f94, Go.Proofs.Try.func94, by kernel_rfl, by kernel_rfl⟩
theorem enters_keccak_constants : Enters Go.Proofs.Try.prog 95 := ⟨Go.Proofs.Try.f95, Go.Proofs.Try.func95, by kernel_rfl, by kernel_rfl⟩
theorem enters_keccak_mixed : Enters Go.Proofs.Try.prog 96 := ⟨Go.Proofs.Try.f96, Go.Proofs.Try.func96, by kernel_rfl, by kernel_rfl⟩
theorem enters_ref03_constants : Enters Go.Proofs.Try.prog 97 := ⟨Go.Proofs.Try.f97, Go.Proofs.Try.func97, by kernel_rfl, by kernel_rfl⟩
theorem enters_ref03_round : Enters Go.Proofs.Try.prog 98 := ⟨Go.Proofs.Try.f98, Go.Proofs.Try.func98, by kernel_rfl, by kernel_rfl⟩
theorem enters_bits_RotateLeft64 : Enters Go.Proofs.Try.prog 99 := ⟨Go.Proofs.Try.f99, Go.Proofs.Try.func99, by kernel_rfl, by kernel_rfl⟩
theorem enters_ref03_turn : Enters Go.Proofs.Try.prog 100 := ⟨Go.Proofs.Try.f100, Go.Proofs.Try.func100, by kernel_rfl, by kernel_rfl⟩
end Go.Ax.TryP
