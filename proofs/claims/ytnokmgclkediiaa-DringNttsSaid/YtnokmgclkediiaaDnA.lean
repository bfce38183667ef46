/- A part of the proof: DnT, DnR, DnM, DnS, DnP, DnP1, DnQ1, DnQ2, DnQ3, DnM2, DnM3, DnM4, DnM5, DnQ5, DnQ6, DnQ7, DnS2, DnP2, DnQ4, DnS3, DnS4, DnS5, DnP3. -/
import Derived.Test.YtnokmgclkediiaaAxD
import Derived.Test.YtnokmgclkediiaaProg
/-! Printed by program (gen.py). -/
set_option linter.unusedVariables false
namespace Go.Ax.TryP
theorem mix : Go.Proofs.Try.prog.follows .mixedOrders = true := by kernel_rfl
noncomputable def ty2 : TyI where
  td := .int .i64
  size := 1
  bytes := 8
  zero := [.xs (.int .i64) 1 [0]]
theorem ty2_ok : TyOk Go.Proofs.Try.prog 2 ty2 :=
  TyOk.of (f := Go.Proofs.Try.t2) (z := (Go.Proofs.Try.t2.zero).getD .nilIface) (cs := (zeroS ty2.zero).getD []) Go.Proofs.Try.underlying2 (by kernel_rfl) (by kernel_rfl) ⟨by kernel_rfl, by kernel_rfl⟩ (by kernel_rfl) (by kernel_rfl) (by kernel_rfl) (by kernel_rfl) (by kernel_rfl)
noncomputable def ty3 : TyI where
  td := .int .i64
  size := 1
  bytes := 8
  zero := [.xs (.int .i64) 1 [0]]
theorem ty3_ok : TyOk Go.Proofs.Try.prog 3 ty3 :=
  TyOk.of (f := Go.Proofs.Try.t3) (z := (Go.Proofs.Try.t3.zero).getD .nilIface) (cs := (zeroS ty3.zero).getD []) Go.Proofs.Try.underlying3 (by kernel_rfl) (by kernel_rfl) ⟨by kernel_rfl, by kernel_rfl⟩ (by kernel_rfl) (by kernel_rfl) (by kernel_rfl) (by kernel_rfl) (by kernel_rfl)
noncomputable def ty4 : TyI where
  td := .bool
  size := 1
  bytes := 1
  zero := [.xs .bool 1 [0]]
theorem ty4_ok : TyOk Go.Proofs.Try.prog 4 ty4 :=
  TyOk.of (f := Go.Proofs.Try.t4) (z := (Go.Proofs.Try.t4.zero).getD .nilIface) (cs := (zeroS ty4.zero).getD []) Go.Proofs.Try.underlying4 (by kernel_rfl) (by kernel_rfl) ⟨by kernel_rfl, by kernel_rfl⟩ (by kernel_rfl) (by kernel_rfl) (by kernel_rfl) (by kernel_rfl) (by kernel_rfl)
noncomputable def ty5 : TyI where
  td := .int .u8
  size := 1
  bytes := 1
  zero := [.xs (.int .u8) 1 [0]]
theorem ty5_ok : TyOk Go.Proofs.Try.prog 5 ty5 :=
  TyOk.of (f := Go.Proofs.Try.t5) (z := (Go.Proofs.Try.t5.zero).getD .nilIface) (cs := (zeroS ty5.zero).getD []) Go.Proofs.Try.underlying5 (by kernel_rfl) (by kernel_rfl) ⟨by kernel_rfl, by kernel_rfl⟩ (by kernel_rfl) (by kernel_rfl) (by kernel_rfl) (by kernel_rfl) (by kernel_rfl)
noncomputable def ty6 : TyI where
  td := .int .u8
  size := 1
  bytes := 1
  zero := [.xs (.int .u8) 1 [0]]
theorem ty6_ok : TyOk Go.Proofs.Try.prog 6 ty6 :=
  TyOk.of (f := Go.Proofs.Try.t6) (z := (Go.Proofs.Try.t6.zero).getD .nilIface) (cs := (zeroS ty6.zero).getD []) Go.Proofs.Try.underlying6 (by kernel_rfl) (by kernel_rfl) ⟨by kernel_rfl, by kernel_rfl⟩ (by kernel_rfl) (by kernel_rfl) (by kernel_rfl) (by kernel_rfl) (by kernel_rfl)
noncomputable def ty7 : TyI where
  td := .st [(0, 2), (1, 3), (2, 4), (3, 6)]
  size := 4
  bytes := 24
  zero := [.xs (.int .i64) 1 [0], .xs (.int .i64) 1 [0], .xs .bool 1 [0], .xs (.int .u8) 1 [0]]
theorem ty7_ok : TyOk Go.Proofs.Try.prog 7 ty7 :=
  TyOk.of (f := Go.Proofs.Try.t7) (z := (Go.Proofs.Try.t7.zero).getD .nilIface) (cs := (zeroS ty7.zero).getD []) Go.Proofs.Try.underlying7 (by kernel_rfl) (by kernel_rfl) ⟨by kernel_rfl, by kernel_rfl⟩ (by kernel_rfl) (by kernel_rfl) (by kernel_rfl) (by kernel_rfl) (by kernel_rfl)
noncomputable def ty8 : TyI where
  td := .st [(0, 2), (1, 3), (2, 4), (3, 6)]
  size := 4
  bytes := 24
  zero := [.xs (.int .i64) 1 [0], .xs (.int .i64) 1 [0], .xs .bool 1 [0], .xs (.int .u8) 1 [0]]
theorem ty8_ok : TyOk Go.Proofs.Try.prog 8 ty8 :=
  TyOk.of (f := Go.Proofs.Try.t8) (z := (Go.Proofs.Try.t8.zero).getD .nilIface) (cs := (zeroS ty8.zero).getD []) Go.Proofs.Try.underlying8 (by kernel_rfl) (by kernel_rfl) ⟨by kernel_rfl, by kernel_rfl⟩ (by kernel_rfl) (by kernel_rfl) (by kernel_rfl) (by kernel_rfl) (by kernel_rfl)
noncomputable def ty9 : TyI where
  td := .str
  size := 1
  bytes := 16
  zero := [.one (.str (⟨#[]⟩ : ByteArray))]
theorem ty9_ok : TyOk Go.Proofs.Try.prog 9 ty9 :=
  TyOk.of (f := Go.Proofs.Try.t9) (z := (Go.Proofs.Try.t9.zero).getD .nilIface) (cs := (zeroS ty9.zero).getD []) Go.Proofs.Try.underlying9 (by kernel_rfl) (by kernel_rfl) ⟨by kernel_rfl, by kernel_rfl⟩ (by kernel_rfl) (by kernel_rfl) (by kernel_rfl) (by kernel_rfl) (by kernel_rfl)
noncomputable def ty10 : TyI where
  td := .str
  size := 1
  bytes := 16
  zero := [.one (.str (⟨#[]⟩ : ByteArray))]
theorem ty10_ok : TyOk Go.Proofs.Try.prog 10 ty10 :=
  TyOk.of (f := Go.Proofs.Try.t10) (z := (Go.Proofs.Try.t10.zero).getD .nilIface) (cs := (zeroS ty10.zero).getD []) Go.Proofs.Try.underlying10 (by kernel_rfl) (by kernel_rfl) ⟨by kernel_rfl, by kernel_rfl⟩ (by kernel_rfl) (by kernel_rfl) (by kernel_rfl) (by kernel_rfl) (by kernel_rfl)
noncomputable def ty11 : TyI where
  td := .str
  size := 1
  bytes := 16
  zero := [.one (.str (⟨#[]⟩ : ByteArray))]
theorem ty11_ok : TyOk Go.Proofs.Try.prog 11 ty11 :=
  TyOk.of (f := Go.Proofs.Try.t11) (z := (Go.Proofs.Try.t11.zero).getD .nilIface) (cs := (zeroS ty11.zero).getD []) Go.Proofs.Try.underlying11 (by kernel_rfl) (by kernel_rfl) ⟨by kernel_rfl, by kernel_rfl⟩ (by kernel_rfl) (by kernel_rfl) (by kernel_rfl) (by kernel_rfl) (by kernel_rfl)
noncomputable def ty12 : TyI where
  td := .int .u64
  size := 1
  bytes := 8
  zero := [.xs (.int .u64) 1 [0]]
theorem ty12_ok : TyOk Go.Proofs.Try.prog 12 ty12 :=
  TyOk.of (f := Go.Proofs.Try.t12) (z := (Go.Proofs.Try.t12.zero).getD .nilIface) (cs := (zeroS ty12.zero).getD []) Go.Proofs.Try.underlying12 (by kernel_rfl) (by kernel_rfl) ⟨by kernel_rfl, by kernel_rfl⟩ (by kernel_rfl) (by kernel_rfl) (by kernel_rfl) (by kernel_rfl) (by kernel_rfl)
noncomputable def ty13 : TyI where
  td := .st [(0, 9), (1, 12)]
  size := 2
  bytes := 24
  zero := [.one (.str (⟨#[]⟩ : ByteArray)), .xs (.int .u64) 1 [0]]
theorem ty13_ok : TyOk Go.Proofs.Try.prog 13 ty13 :=
  TyOk.of (f := Go.Proofs.Try.t13) (z := (Go.Proofs.Try.t13.zero).getD .nilIface) (cs := (zeroS ty13.zero).getD []) Go.Proofs.Try.underlying13 (by kernel_rfl) (by kernel_rfl) ⟨by kernel_rfl, by kernel_rfl⟩ (by kernel_rfl) (by kernel_rfl) (by kernel_rfl) (by kernel_rfl) (by kernel_rfl)
noncomputable def ty14 : TyI where
  td := .st [(0, 9), (1, 12)]
  size := 2
  bytes := 24
  zero := [.one (.str (⟨#[]⟩ : ByteArray)), .xs (.int .u64) 1 [0]]
theorem ty14_ok : TyOk Go.Proofs.Try.prog 14 ty14 :=
  TyOk.of (f := Go.Proofs.Try.t14) (z := (Go.Proofs.Try.t14.zero).getD .nilIface) (cs := (zeroS ty14.zero).getD []) Go.Proofs.Try.underlying14 (by kernel_rfl) (by kernel_rfl) ⟨by kernel_rfl, by kernel_rfl⟩ (by kernel_rfl) (by kernel_rfl) (by kernel_rfl) (by kernel_rfl) (by kernel_rfl)
noncomputable def ty15 : TyI where
  td := .ptr 108
  size := 1
  bytes := 8
  zero := [.one (.nilp)]
theorem ty15_ok : TyOk Go.Proofs.Try.prog 15 ty15 :=
  TyOk.of (f := Go.Proofs.Try.t15) (z := (Go.Proofs.Try.t15.zero).getD .nilIface) (cs := (zeroS ty15.zero).getD []) Go.Proofs.Try.underlying15 (by kernel_rfl) (by kernel_rfl) ⟨by kernel_rfl, by kernel_rfl⟩ (by kernel_rfl) (by kernel_rfl) (by kernel_rfl) (by kernel_rfl) (by kernel_rfl)
noncomputable def ty16 : TyI where
  td := .ptr 111
  size := 1
  bytes := 8
  zero := [.one (.nilp)]
theorem ty16_ok : TyOk Go.Proofs.Try.prog 16 ty16 :=
  TyOk.of (f := Go.Proofs.Try.t16) (z := (Go.Proofs.Try.t16.zero).getD .nilIface) (cs := (zeroS ty16.zero).getD []) Go.Proofs.Try.underlying16 (by kernel_rfl) (by kernel_rfl) ⟨by kernel_rfl, by kernel_rfl⟩ (by kernel_rfl) (by kernel_rfl) (by kernel_rfl) (by kernel_rfl) (by kernel_rfl)
noncomputable def ty17 : TyI where
  td := .ptr 121
  size := 1
  bytes := 8
  zero := [.one (.nilp)]
theorem ty17_ok : TyOk Go.Proofs.Try.prog 17 ty17 :=
  TyOk.of (f := Go.Proofs.Try.t17) (z := (Go.Proofs.Try.t17.zero).getD .nilIface) (cs := (zeroS ty17.zero).getD []) Go.Proofs.Try.underlying17 (by kernel_rfl) (by kernel_rfl) ⟨by kernel_rfl, by kernel_rfl⟩ (by kernel_rfl) (by kernel_rfl) (by kernel_rfl) (by kernel_rfl) (by kernel_rfl)
noncomputable def ty18 : TyI where
  td := .st [(0, 17)]
  size := 1
  bytes := 8
  zero := [.one (.nilp)]
theorem ty18_ok : TyOk Go.Proofs.Try.prog 18 ty18 :=
  TyOk.of (f := Go.Proofs.Try.t18) (z := (Go.Proofs.Try.t18.zero).getD .nilIface) (cs := (zeroS ty18.zero).getD []) Go.Proofs.Try.underlying18 (by kernel_rfl) (by kernel_rfl) ⟨by kernel_rfl, by kernel_rfl⟩ (by kernel_rfl) (by kernel_rfl) (by kernel_rfl) (by kernel_rfl) (by kernel_rfl)
noncomputable def ty19 : TyI where
  td := .st [(0, 17)]
  size := 1
  bytes := 8
  zero := [.one (.nilp)]
theorem ty19_ok : TyOk Go.Proofs.Try.prog 19 ty19 :=
  TyOk.of (f := Go.Proofs.Try.t19) (z := (Go.Proofs.Try.t19.zero).getD .nilIface) (cs := (zeroS ty19.zero).getD []) Go.Proofs.Try.underlying19 (by kernel_rfl) (by kernel_rfl) ⟨by kernel_rfl, by kernel_rfl⟩ (by kernel_rfl) (by kernel_rfl) (by kernel_rfl) (by kernel_rfl) (by kernel_rfl)
noncomputable def ty21 : TyI where
  td := .int .i32
  size := 1
  bytes := 4
  zero := [.xs (.int .i32) 1 [0]]
theorem ty21_ok : TyOk Go.Proofs.Try.prog 21 ty21 :=
  TyOk.of (f := Go.Proofs.Try.t21) (z := (Go.Proofs.Try.t21.zero).getD .nilIface) (cs := (zeroS ty21.zero).getD []) Go.Proofs.Try.underlying21 (by kernel_rfl) (by kernel_rfl) ⟨by kernel_rfl, by kernel_rfl⟩ (by kernel_rfl) (by kernel_rfl) (by kernel_rfl) (by kernel_rfl) (by kernel_rfl)
noncomputable def ty22 : TyI where
  td := .arr 256 21
  size := 256
  bytes := 1024
  zero := [.xs (.int .i32) 256 (List.replicate 256 0)]
theorem ty22_ok : TyOk Go.Proofs.Try.prog 22 ty22 :=
  TyOk.of (f := Go.Proofs.Try.t22) (z := (Go.Proofs.Try.t22.zero).getD .nilIface) (cs := (zeroS ty22.zero).getD []) Go.Proofs.Try.underlying22 (by kernel_rfl) (by kernel_rfl) ⟨by kernel_rfl, by kernel_rfl⟩ (by kernel_rfl) (by kernel_rfl) (by kernel_rfl) (by kernel_rfl) (by kernel_rfl)
noncomputable def ty23 : TyI where
  td := .arr 256 21
  size := 256
  bytes := 1024
  zero := [.xs (.int .i32) 256 (List.replicate 256 0)]
theorem ty23_ok : TyOk Go.Proofs.Try.prog 23 ty23 :=
  TyOk.of (f := Go.Proofs.Try.t23) (z := (Go.Proofs.Try.t23.zero).getD .nilIface) (cs := (zeroS ty23.zero).getD []) Go.Proofs.Try.underlying23 (by kernel_rfl) (by kernel_rfl) ⟨by kernel_rfl, by kernel_rfl⟩ (by kernel_rfl) (by kernel_rfl) (by kernel_rfl) (by kernel_rfl) (by kernel_rfl)
noncomputable def ty30 : TyI where
  td := .arr 256 4
  size := 256
  bytes := 256
  zero := [.xs .bool 256 (List.replicate 256 0)]
theorem ty30_ok : TyOk Go.Proofs.Try.prog 30 ty30 :=
  TyOk.of (f := Go.Proofs.Try.t30) (z := (Go.Proofs.Try.t30.zero).getD .nilIface) (cs := (zeroS ty30.zero).getD []) Go.Proofs.Try.underlying30 (by kernel_rfl) (by kernel_rfl) ⟨by kernel_rfl, by kernel_rfl⟩ (by kernel_rfl) (by kernel_rfl) (by kernel_rfl) (by kernel_rfl) (by kernel_rfl)
noncomputable def ty31 : TyI where
  td := .arr 256 4
  size := 256
  bytes := 256
  zero := [.xs .bool 256 (List.replicate 256 0)]
theorem ty31_ok : TyOk Go.Proofs.Try.prog 31 ty31 :=
  TyOk.of (f := Go.Proofs.Try.t31) (z := (Go.Proofs.Try.t31.zero).getD .nilIface) (cs := (zeroS ty31.zero).getD []) Go.Proofs.Try.underlying31 (by kernel_rfl) (by kernel_rfl) ⟨by kernel_rfl, by kernel_rfl⟩ (by kernel_rfl) (by kernel_rfl) (by kernel_rfl) (by kernel_rfl) (by kernel_rfl)
noncomputable def ty38 : TyI where
  td := .sl 31
  size := 1
  bytes := 24
  zero := [.one (.nilsl)]
theorem ty38_ok : TyOk Go.Proofs.Try.prog 38 ty38 :=
  TyOk.of (f := Go.Proofs.Try.t38) (z := (Go.Proofs.Try.t38.zero).getD .nilIface) (cs := (zeroS ty38.zero).getD []) Go.Proofs.Try.underlying38 (by kernel_rfl) (by kernel_rfl) ⟨by kernel_rfl, by kernel_rfl⟩ (by kernel_rfl) (by kernel_rfl) (by kernel_rfl) (by kernel_rfl) (by kernel_rfl)
noncomputable def ty39 : TyI where
  td := .sl 5
  size := 1
  bytes := 24
  zero := [.one (.nilsl)]
theorem ty39_ok : TyOk Go.Proofs.Try.prog 39 ty39 :=
  TyOk.of (f := Go.Proofs.Try.t39) (z := (Go.Proofs.Try.t39.zero).getD .nilIface) (cs := (zeroS ty39.zero).getD []) Go.Proofs.Try.underlying39 (by kernel_rfl) (by kernel_rfl) ⟨by kernel_rfl, by kernel_rfl⟩ (by kernel_rfl) (by kernel_rfl) (by kernel_rfl) (by kernel_rfl) (by kernel_rfl)
noncomputable def ty40 : TyI where
  td := .int .i64
  size := 1
  bytes := 8
  zero := [.xs (.int .i64) 1 [0]]
theorem ty40_ok : TyOk Go.Proofs.Try.prog 40 ty40 :=
  TyOk.of (f := Go.Proofs.Try.t40) (z := (Go.Proofs.Try.t40.zero).getD .nilIface) (cs := (zeroS ty40.zero).getD []) Go.Proofs.Try.underlying40 (by kernel_rfl) (by kernel_rfl) ⟨by kernel_rfl, by kernel_rfl⟩ (by kernel_rfl) (by kernel_rfl) (by kernel_rfl) (by kernel_rfl) (by kernel_rfl)
noncomputable def ty50 : TyI where
  td := .sl 3
  size := 1
  bytes := 24
  zero := [.one (.nilsl)]
theorem ty50_ok : TyOk Go.Proofs.Try.prog 50 ty50 :=
  TyOk.of (f := Go.Proofs.Try.t50) (z := (Go.Proofs.Try.t50.zero).getD .nilIface) (cs := (zeroS ty50.zero).getD []) Go.Proofs.Try.underlying50 (by kernel_rfl) (by kernel_rfl) ⟨by kernel_rfl, by kernel_rfl⟩ (by kernel_rfl) (by kernel_rfl) (by kernel_rfl) (by kernel_rfl) (by kernel_rfl)
noncomputable def ty51 : TyI where
  td := .int .u64
  size := 1
  bytes := 8
  zero := [.xs (.int .u64) 1 [0]]
theorem ty51_ok : TyOk Go.Proofs.Try.prog 51 ty51 :=
  TyOk.of (f := Go.Proofs.Try.t51) (z := (Go.Proofs.Try.t51.zero).getD .nilIface) (cs := (zeroS ty51.zero).getD []) Go.Proofs.Try.underlying51 (by kernel_rfl) (by kernel_rfl) ⟨by kernel_rfl, by kernel_rfl⟩ (by kernel_rfl) (by kernel_rfl) (by kernel_rfl) (by kernel_rfl) (by kernel_rfl)
noncomputable def ty63 : TyI where
  td := .sl 2
  size := 1
  bytes := 24
  zero := [.one (.nilsl)]
theorem ty63_ok : TyOk Go.Proofs.Try.prog 63 ty63 :=
  TyOk.of (f := Go.Proofs.Try.t63) (z := (Go.Proofs.Try.t63.zero).getD .nilIface) (cs := (zeroS ty63.zero).getD []) Go.Proofs.Try.underlying63 (by kernel_rfl) (by kernel_rfl) ⟨by kernel_rfl, by kernel_rfl⟩ (by kernel_rfl) (by kernel_rfl) (by kernel_rfl) (by kernel_rfl) (by kernel_rfl)
noncomputable def ty66 : TyI where
  td := .arr 512 2
  size := 512
  bytes := 4096
  zero := [.xs (.int .i64) 512 (List.replicate 512 0)]
theorem ty66_ok : TyOk Go.Proofs.Try.prog 66 ty66 :=
  TyOk.of (f := Go.Proofs.Try.t66) (z := (Go.Proofs.Try.t66.zero).getD .nilIface) (cs := (zeroS ty66.zero).getD []) Go.Proofs.Try.underlying66 (by kernel_rfl) (by kernel_rfl) ⟨by kernel_rfl, by kernel_rfl⟩ (by kernel_rfl) (by kernel_rfl) (by kernel_rfl) (by kernel_rfl) (by kernel_rfl)
noncomputable def ty68 : TyI where
  td := .arr 2 5
  size := 2
  bytes := 2
  zero := [.xs (.int .u8) 2 (List.replicate 2 0)]
theorem ty68_ok : TyOk Go.Proofs.Try.prog 68 ty68 :=
  TyOk.of (f := Go.Proofs.Try.t68) (z := (Go.Proofs.Try.t68.zero).getD .nilIface) (cs := (zeroS ty68.zero).getD []) Go.Proofs.Try.underlying68 (by kernel_rfl) (by kernel_rfl) ⟨by kernel_rfl, by kernel_rfl⟩ (by kernel_rfl) (by kernel_rfl) (by kernel_rfl) (by kernel_rfl) (by kernel_rfl)
noncomputable def ty72 : TyI where
  td := .ptr 88
  size := 1
  bytes := 8
  zero := [.one (.nilp)]
theorem ty72_ok : TyOk Go.Proofs.Try.prog 72 ty72 :=
  TyOk.of (f := Go.Proofs.Try.t72) (z := (Go.Proofs.Try.t72.zero).getD .nilIface) (cs := (zeroS ty72.zero).getD []) Go.Proofs.Try.underlying72 (by kernel_rfl) (by kernel_rfl) ⟨by kernel_rfl, by kernel_rfl⟩ (by kernel_rfl) (by kernel_rfl) (by kernel_rfl) (by kernel_rfl) (by kernel_rfl)
noncomputable def ty77 : TyI where
  td := .sl 4
  size := 1
  bytes := 24
  zero := [.one (.nilsl)]
theorem ty77_ok : TyOk Go.Proofs.Try.prog 77 ty77 :=
  TyOk.of (f := Go.Proofs.Try.t77) (z := (Go.Proofs.Try.t77.zero).getD .nilIface) (cs := (zeroS ty77.zero).getD []) Go.Proofs.Try.underlying77 (by kernel_rfl) (by kernel_rfl) ⟨by kernel_rfl, by kernel_rfl⟩ (by kernel_rfl) (by kernel_rfl) (by kernel_rfl) (by kernel_rfl) (by kernel_rfl)
noncomputable def ty80 : TyI where
  td := .sl 39
  size := 1
  bytes := 24
  zero := [.one (.nilsl)]
theorem ty80_ok : TyOk Go.Proofs.Try.prog 80 ty80 :=
  TyOk.of (f := Go.Proofs.Try.t80) (z := (Go.Proofs.Try.t80.zero).getD .nilIface) (cs := (zeroS ty80.zero).getD []) Go.Proofs.Try.underlying80 (by kernel_rfl) (by kernel_rfl) ⟨by kernel_rfl, by kernel_rfl⟩ (by kernel_rfl) (by kernel_rfl) (by kernel_rfl) (by kernel_rfl) (by kernel_rfl)
noncomputable def ty83 : TyI where
  td := .int .u64
  size := 1
  bytes := 8
  zero := [.xs (.int .u64) 1 [0]]
theorem ty83_ok : TyOk Go.Proofs.Try.prog 83 ty83 :=
  TyOk.of (f := Go.Proofs.Try.t83) (z := (Go.Proofs.Try.t83.zero).getD .nilIface) (cs := (zeroS ty83.zero).getD []) Go.Proofs.Try.underlying83 (by kernel_rfl) (by kernel_rfl) ⟨by kernel_rfl, by kernel_rfl⟩ (by kernel_rfl) (by kernel_rfl) (by kernel_rfl) (by kernel_rfl) (by kernel_rfl)
noncomputable def ty84 : TyI where
  td := .arr 25 83
  size := 25
  bytes := 200
  zero := [.xs (.int .u64) 25 (List.replicate 25 0)]
theorem ty84_ok : TyOk Go.Proofs.Try.prog 84 ty84 :=
  TyOk.of (f := Go.Proofs.Try.t84) (z := (Go.Proofs.Try.t84.zero).getD .nilIface) (cs := (zeroS ty84.zero).getD []) Go.Proofs.Try.underlying84 (by kernel_rfl) (by kernel_rfl) ⟨by kernel_rfl, by kernel_rfl⟩ (by kernel_rfl) (by kernel_rfl) (by kernel_rfl) (by kernel_rfl) (by kernel_rfl)
noncomputable def ty85 : TyI where
  td := .st [(0, 84), (25, 3), (26, 3)]
  size := 27
  bytes := 216
  zero := [.xs (.int .u64) 25 (List.replicate 25 0), .xs (.int .i64) 1 [0], .xs (.int .i64) 1 [0]]
theorem ty85_ok : TyOk Go.Proofs.Try.prog 85 ty85 :=
  TyOk.of (f := Go.Proofs.Try.t85) (z := (Go.Proofs.Try.t85.zero).getD .nilIface) (cs := (zeroS ty85.zero).getD []) Go.Proofs.Try.underlying85 (by kernel_rfl) (by kernel_rfl) ⟨by kernel_rfl, by kernel_rfl⟩ (by kernel_rfl) (by kernel_rfl) (by kernel_rfl) (by kernel_rfl) (by kernel_rfl)
noncomputable def ty86 : TyI where
  td := .st [(0, 84), (25, 3), (26, 3)]
  size := 27
  bytes := 216
  zero := [.xs (.int .u64) 25 (List.replicate 25 0), .xs (.int .i64) 1 [0], .xs (.int .i64) 1 [0]]
theorem ty86_ok : TyOk Go.Proofs.Try.prog 86 ty86 :=
  TyOk.of (f := Go.Proofs.Try.t86) (z := (Go.Proofs.Try.t86.zero).getD .nilIface) (cs := (zeroS ty86.zero).getD []) Go.Proofs.Try.underlying86 (by kernel_rfl) (by kernel_rfl) ⟨by kernel_rfl, by kernel_rfl⟩ (by kernel_rfl) (by kernel_rfl) (by kernel_rfl) (by kernel_rfl) (by kernel_rfl)
noncomputable def ty87 : TyI where
  td := .st [(0, 4), (1, 86), (28, 3)]
  size := 29
  bytes := 232
  zero := [.xs .bool 1 [0], .xs (.int .u64) 25 (List.replicate 25 0), .xs (.int .i64) 1 [0], .xs (.int .i64) 1 [0], .xs (.int .i64) 1 [0]]
theorem ty87_ok : TyOk Go.Proofs.Try.prog 87 ty87 :=
  TyOk.of (f := Go.Proofs.Try.t87) (z := (Go.Proofs.Try.t87.zero).getD .nilIface) (cs := (zeroS ty87.zero).getD []) Go.Proofs.Try.underlying87 (by kernel_rfl) (by kernel_rfl) ⟨by kernel_rfl, by kernel_rfl⟩ (by kernel_rfl) (by kernel_rfl) (by kernel_rfl) (by kernel_rfl) (by kernel_rfl)
noncomputable def ty88 : TyI where
  td := .st [(0, 4), (1, 86), (28, 3)]
  size := 29
  bytes := 232
  zero := [.xs .bool 1 [0], .xs (.int .u64) 25 (List.replicate 25 0), .xs (.int .i64) 1 [0], .xs (.int .i64) 1 [0], .xs (.int .i64) 1 [0]]
theorem ty88_ok : TyOk Go.Proofs.Try.prog 88 ty88 :=
  TyOk.of (f := Go.Proofs.Try.t88) (z := (Go.Proofs.Try.t88.zero).getD .nilIface) (cs := (zeroS ty88.zero).getD []) Go.Proofs.Try.underlying88 (by kernel_rfl) (by kernel_rfl) ⟨by kernel_rfl, by kernel_rfl⟩ (by kernel_rfl) (by kernel_rfl) (by kernel_rfl) (by kernel_rfl) (by kernel_rfl)
noncomputable def ty92 : TyI where
  td := .ptr 86
  size := 1
  bytes := 8
  zero := [.one (.nilp)]
theorem ty92_ok : TyOk Go.Proofs.Try.prog 92 ty92 :=
  TyOk.of (f := Go.Proofs.Try.t92) (z := (Go.Proofs.Try.t92.zero).getD .nilIface) (cs := (zeroS ty92.zero).getD []) Go.Proofs.Try.underlying92 (by kernel_rfl) (by kernel_rfl) ⟨by kernel_rfl, by kernel_rfl⟩ (by kernel_rfl) (by kernel_rfl) (by kernel_rfl) (by kernel_rfl) (by kernel_rfl)
noncomputable def ty97 : TyI where
  td := .arr 25 3
  size := 25
  bytes := 200
  zero := [.xs (.int .i64) 25 (List.replicate 25 0)]
theorem ty97_ok : TyOk Go.Proofs.Try.prog 97 ty97 :=
  TyOk.of (f := Go.Proofs.Try.t97) (z := (Go.Proofs.Try.t97.zero).getD .nilIface) (cs := (zeroS ty97.zero).getD []) Go.Proofs.Try.underlying97 (by kernel_rfl) (by kernel_rfl) ⟨by kernel_rfl, by kernel_rfl⟩ (by kernel_rfl) (by kernel_rfl) (by kernel_rfl) (by kernel_rfl) (by kernel_rfl)
noncomputable def ty99 : TyI where
  td := .arr 24 83
  size := 24
  bytes := 192
  zero := [.xs (.int .u64) 24 (List.replicate 24 0)]
theorem ty99_ok : TyOk Go.Proofs.Try.prog 99 ty99 :=
  TyOk.of (f := Go.Proofs.Try.t99) (z := (Go.Proofs.Try.t99.zero).getD .nilIface) (cs := (zeroS ty99.zero).getD []) Go.Proofs.Try.underlying99 (by kernel_rfl) (by kernel_rfl) ⟨by kernel_rfl, by kernel_rfl⟩ (by kernel_rfl) (by kernel_rfl) (by kernel_rfl) (by kernel_rfl) (by kernel_rfl)
noncomputable def ty102 : TyI where
  td := .ptr 97
  size := 1
  bytes := 8
  zero := [.one (.nilp)]
theorem ty102_ok : TyOk Go.Proofs.Try.prog 102 ty102 :=
  TyOk.of (f := Go.Proofs.Try.t102) (z := (Go.Proofs.Try.t102.zero).getD .nilIface) (cs := (zeroS ty102.zero).getD []) Go.Proofs.Try.underlying102 (by kernel_rfl) (by kernel_rfl) ⟨by kernel_rfl, by kernel_rfl⟩ (by kernel_rfl) (by kernel_rfl) (by kernel_rfl) (by kernel_rfl) (by kernel_rfl)
noncomputable def ty104 : TyI where
  td := .arr 5 83
  size := 5
  bytes := 40
  zero := [.xs (.int .u64) 5 (List.replicate 5 0)]
theorem ty104_ok : TyOk Go.Proofs.Try.prog 104 ty104 :=
  TyOk.of (f := Go.Proofs.Try.t104) (z := (Go.Proofs.Try.t104.zero).getD .nilIface) (cs := (zeroS ty104.zero).getD []) Go.Proofs.Try.underlying104 (by kernel_rfl) (by kernel_rfl) ⟨by kernel_rfl, by kernel_rfl⟩ (by kernel_rfl) (by kernel_rfl) (by kernel_rfl) (by kernel_rfl) (by kernel_rfl)
noncomputable def ty107 : TyI where
  td := .st [(0, 17), (1, 17), (2, 17), (3, 9)]
  size := 4
  bytes := 40
  zero := [.one (.nilp), .one (.nilp), .one (.nilp), .one (.str (⟨#[]⟩ : ByteArray))]
theorem ty107_ok : TyOk Go.Proofs.Try.prog 107 ty107 :=
  TyOk.of (f := Go.Proofs.Try.t107) (z := (Go.Proofs.Try.t107.zero).getD .nilIface) (cs := (zeroS ty107.zero).getD []) Go.Proofs.Try.underlying107 (by kernel_rfl) (by kernel_rfl) ⟨by kernel_rfl, by kernel_rfl⟩ (by kernel_rfl) (by kernel_rfl) (by kernel_rfl) (by kernel_rfl) (by kernel_rfl)
noncomputable def ty108 : TyI where
  td := .st [(0, 17), (1, 17), (2, 17), (3, 9)]
  size := 4
  bytes := 40
  zero := [.one (.nilp), .one (.nilp), .one (.nilp), .one (.str (⟨#[]⟩ : ByteArray))]
theorem ty108_ok : TyOk Go.Proofs.Try.prog 108 ty108 :=
  TyOk.of (f := Go.Proofs.Try.t108) (z := (Go.Proofs.Try.t108.zero).getD .nilIface) (cs := (zeroS ty108.zero).getD []) Go.Proofs.Try.underlying108 (by kernel_rfl) (by kernel_rfl) ⟨by kernel_rfl, by kernel_rfl⟩ (by kernel_rfl) (by kernel_rfl) (by kernel_rfl) (by kernel_rfl) (by kernel_rfl)
noncomputable def ty109 : TyI where
  td := .arr 0 16
  size := 0
  bytes := 0
  zero := []
theorem ty109_ok : TyOk Go.Proofs.Try.prog 109 ty109 :=
  TyOk.of (f := Go.Proofs.Try.t109) (z := (Go.Proofs.Try.t109.zero).getD .nilIface) (cs := (zeroS ty109.zero).getD []) Go.Proofs.Try.underlying109 (by kernel_rfl) (by kernel_rfl) ⟨by kernel_rfl, by kernel_rfl⟩ (by kernel_rfl) (by kernel_rfl) (by kernel_rfl) (by kernel_rfl) (by kernel_rfl)
noncomputable def ty110 : TyI where
  td := .st [(0, 109)]
  size := 0
  bytes := 0
  zero := []
theorem ty110_ok : TyOk Go.Proofs.Try.prog 110 ty110 :=
  TyOk.of (f := Go.Proofs.Try.t110) (z := (Go.Proofs.Try.t110.zero).getD .nilIface) (cs := (zeroS ty110.zero).getD []) Go.Proofs.Try.underlying110 (by kernel_rfl) (by kernel_rfl) ⟨by kernel_rfl, by kernel_rfl⟩ (by kernel_rfl) (by kernel_rfl) (by kernel_rfl) (by kernel_rfl) (by kernel_rfl)
noncomputable def ty111 : TyI where
  td := .st [(0, 109)]
  size := 0
  bytes := 0
  zero := []
theorem ty111_ok : TyOk Go.Proofs.Try.prog 111 ty111 :=
  TyOk.of (f := Go.Proofs.Try.t111) (z := (Go.Proofs.Try.t111.zero).getD .nilIface) (cs := (zeroS ty111.zero).getD []) Go.Proofs.Try.underlying111 (by kernel_rfl) (by kernel_rfl) ⟨by kernel_rfl, by kernel_rfl⟩ (by kernel_rfl) (by kernel_rfl) (by kernel_rfl) (by kernel_rfl) (by kernel_rfl)
noncomputable def ty113 : TyI where
  td := .int .u32
  size := 1
  bytes := 4
  zero := [.xs (.int .u32) 1 [0]]
theorem ty113_ok : TyOk Go.Proofs.Try.prog 113 ty113 :=
  TyOk.of (f := Go.Proofs.Try.t113) (z := (Go.Proofs.Try.t113.zero).getD .nilIface) (cs := (zeroS ty113.zero).getD []) Go.Proofs.Try.underlying113 (by kernel_rfl) (by kernel_rfl) ⟨by kernel_rfl, by kernel_rfl⟩ (by kernel_rfl) (by kernel_rfl) (by kernel_rfl) (by kernel_rfl) (by kernel_rfl)
noncomputable def ty114 : TyI where
  td := .int .u8
  size := 1
  bytes := 1
  zero := [.xs (.int .u8) 1 [0]]
theorem ty114_ok : TyOk Go.Proofs.Try.prog 114 ty114 :=
  TyOk.of (f := Go.Proofs.Try.t114) (z := (Go.Proofs.Try.t114.zero).getD .nilIface) (cs := (zeroS ty114.zero).getD []) Go.Proofs.Try.underlying114 (by kernel_rfl) (by kernel_rfl) ⟨by kernel_rfl, by kernel_rfl⟩ (by kernel_rfl) (by kernel_rfl) (by kernel_rfl) (by kernel_rfl) (by kernel_rfl)
noncomputable def ty115 : TyI where
  td := .int .u8
  size := 1
  bytes := 1
  zero := [.xs (.int .u8) 1 [0]]
theorem ty115_ok : TyOk Go.Proofs.Try.prog 115 ty115 :=
  TyOk.of (f := Go.Proofs.Try.t115) (z := (Go.Proofs.Try.t115.zero).getD .nilIface) (cs := (zeroS ty115.zero).getD []) Go.Proofs.Try.underlying115 (by kernel_rfl) (by kernel_rfl) ⟨by kernel_rfl, by kernel_rfl⟩ (by kernel_rfl) (by kernel_rfl) (by kernel_rfl) (by kernel_rfl) (by kernel_rfl)
noncomputable def ty117 : TyI where
  td := .ptr 5
  size := 1
  bytes := 8
  zero := [.one (.nilp)]
theorem ty117_ok : TyOk Go.Proofs.Try.prog 117 ty117 :=
  TyOk.of (f := Go.Proofs.Try.t117) (z := (Go.Proofs.Try.t117.zero).getD .nilIface) (cs := (zeroS ty117.zero).getD []) Go.Proofs.Try.underlying117 (by kernel_rfl) (by kernel_rfl) ⟨by kernel_rfl, by kernel_rfl⟩ (by kernel_rfl) (by kernel_rfl) (by kernel_rfl) (by kernel_rfl) (by kernel_rfl)
noncomputable def ty118 : TyI where
  td := .int .i32
  size := 1
  bytes := 4
  zero := [.xs (.int .i32) 1 [0]]
theorem ty118_ok : TyOk Go.Proofs.Try.prog 118 ty118 :=
  TyOk.of (f := Go.Proofs.Try.t118) (z := (Go.Proofs.Try.t118.zero).getD .nilIface) (cs := (zeroS ty118.zero).getD []) Go.Proofs.Try.underlying118 (by kernel_rfl) (by kernel_rfl) ⟨by kernel_rfl, by kernel_rfl⟩ (by kernel_rfl) (by kernel_rfl) (by kernel_rfl) (by kernel_rfl) (by kernel_rfl)
noncomputable def ty119 : TyI where
  td := .int .i32
  size := 1
  bytes := 4
  zero := [.xs (.int .i32) 1 [0]]
theorem ty119_ok : TyOk Go.Proofs.Try.prog 119 ty119 :=
  TyOk.of (f := Go.Proofs.Try.t119) (z := (Go.Proofs.Try.t119.zero).getD .nilIface) (cs := (zeroS ty119.zero).getD []) Go.Proofs.Try.underlying119 (by kernel_rfl) (by kernel_rfl) ⟨by kernel_rfl, by kernel_rfl⟩ (by kernel_rfl) (by kernel_rfl) (by kernel_rfl) (by kernel_rfl) (by kernel_rfl)
theorem enters_law15_DringRounds : Enters Go.Proofs.Try.prog 3 := ⟨Go.Proofs.Try.f3, Go.Proofs.Try.func3, by kernel_rfl, by kernel_rfl⟩
theorem enters_law15_DringParts : Enters Go.Proofs.Try.prog 4 := ⟨Go.Proofs.Try.f4, Go.Proofs.Try.func4, by kernel_rfl, by kernel_rfl⟩
theorem enters_law15_DringHints : Enters Go.Proofs.Try.prog 5 := ⟨Go.Proofs.Try.f5, Go.Proofs.Try.func5, by kernel_rfl, by kernel_rfl⟩
theorem enters_law15_DringMends : Enters Go.Proofs.Try.prog 6 := ⟨Go.Proofs.Try.f6, Go.Proofs.Try.func6, by kernel_rfl, by kernel_rfl⟩
theorem enters_law15_DringPlaces : Enters Go.Proofs.Try.prog 7 := ⟨Go.Proofs.Try.f7, Go.Proofs.Try.func7, by kernel_rfl, by kernel_rfl⟩
theorem enters_law15_DringNtts : Enters Go.Proofs.Try.prog 8 := ⟨Go.Proofs.Try.f8, Go.Proofs.Try.func8, by kernel_rfl, by kernel_rfl⟩
theorem enters_law15_DringTurns : Enters Go.Proofs.Try.prog 9 := ⟨Go.Proofs.Try.f9, Go.Proofs.Try.func9, by kernel_rfl, by kernel_rfl⟩
theorem enters_law15_DringSums : Enters Go.Proofs.Try.prog 10 := ⟨Go.Proofs.Try.f10, Go.Proofs.Try.func10, by kernel_rfl, by kernel_rfl⟩
theorem enters_law15_DringSmall : Enters Go.Proofs.Try.prog 11 := ⟨Go.Proofs.Try.f11, Go.Proofs.Try.func11, by kernel_rfl, by kernel_rfl⟩
theorem enters_law15_DringSamples : Enters Go.Proofs.Try.prog 12 := ⟨Go.Proofs.Try.f12, Go.Proofs.Try.func12, by kernel_rfl, by kernel_rfl⟩
theorem enters_dring_Power2Round : Enters Go.Proofs.Try.prog 13 := ⟨Go.Proofs.Try.f13, Go.Proofs.Try.func13, by kernel_rfl, by kernel_rfl⟩
theorem enters_ref15_Power2Round : Enters Go.Proofs.Try.prog 14 := ⟨Go.Proofs.Try.f14, Go.Proofs.Try.func14, by kernel_rfl, by kernel_rfl⟩
theorem enters_dring_Decompose : Enters Go.Proofs.Try.prog 15 := ⟨Go.Proofs.Try.f15, Go.Proofs.Try.func15, by kernel_rfl, by kernel_rfl⟩
theorem enters_ref15_Decompose : Enters Go.Proofs.Try.prog 16 := ⟨Go.Proofs.Try.f16, Go.Proofs.Try.func16, by kernel_rfl, by kernel_rfl⟩
theorem enters_law15_live : Enters Go.Proofs.Try.prog 17 := ⟨Go.Proofs.Try.f17, Go.Proofs.Try.func17, by kernel_rfl, by kernel_rfl⟩
theorem enters_dring_Reduce : Enters Go.Proofs.Try.prog 18 := ⟨Go.Proofs.Try.f18, Go.Proofs.Try.func18, by kernel_rfl, by kernel_rfl⟩
theorem enters_dring_Norm : Enters Go.Proofs.Try.prog 19 := ⟨Go.Proofs.Try.f19, Go.Proofs.Try.func19, by kernel_rfl, by kernel_rfl⟩
theorem enters_dring_MakeHint : Enters Go.Proofs.Try.prog 20 := ⟨Go.Proofs.Try.f20, Go.Proofs.Try.func20, by kernel_rfl, by kernel_rfl⟩
theorem enters_ref15_MakeHint : Enters Go.Proofs.Try.prog 21 := ⟨Go.Proofs.Try.f21, Go.Proofs.Try.func21, by kernel_rfl, by kernel_rfl⟩
theorem enters_dring_UseHint : Enters Go.Proofs.Try.prog 22 := ⟨Go.Proofs.Try.f22, Go.Proofs.Try.func22, by kernel_rfl, by kernel_rfl⟩
theorem enters_ref15_UseHint : Enters Go.Proofs.Try.prog 23 := ⟨Go.Proofs.Try.f23, Go.Proofs.Try.func23, by kernel_rfl, by kernel_rfl⟩
theorem enters_dring_Add : Enters Go.Proofs.Try.prog 24 := ⟨Go.Proofs.Try.f24, Go.Proofs.Try.func24, by kernel_rfl, by kernel_rfl⟩
theorem enters_dring_PackHints : Enters Go.Proofs.Try.prog 25 := ⟨Go.Proofs.Try.f25, Go.Proofs.Try.func25, by kernel_rfl, by kernel_rfl⟩
theorem enters_ref15_PackHints : Enters Go.Proofs.Try.prog 26 := ⟨Go.Proofs.Try.f26, Go.Proofs.Try.func26, by kernel_rfl, by kernel_rfl⟩
theorem enters_dring_UnpackHints : Enters Go.Proofs.Try.prog 27 := ⟨Go.Proofs.Try.f27, Go.Proofs.Try.func27, by kernel_rfl, by kernel_rfl⟩
theorem enters_ref15_UnpackHints : Enters Go.Proofs.Try.prog 28 := ⟨Go.Proofs.Try.f28, Go.Proofs.Try.func28, by kernel_rfl, by kernel_rfl⟩
theorem enters_ref01_Equal : Enters Go.Proofs.Try.prog 29 := ⟨Go.Proofs.Try.f29, Go.Proofs.Try.func29, by kernel_rfl, by kernel_rfl⟩
theorem enters_law15_same : Enters Go.Proofs.Try.prog 30 := ⟨Go.Proofs.Try.f30, Go.Proofs.Try.func30, by kernel_rfl, by kernel_rfl⟩
theorem enters_dring_Ntt : Enters Go.Proofs.Try.prog 31 := ⟨Go.Proofs.Try.f31, Go.Proofs.Try.func31, by kernel_rfl, by kernel_rfl⟩
theorem enters_ref15_Direct : Enters Go.Proofs.Try.prog 32 := ⟨Go.Proofs.Try.f32, Go.Proofs.Try.func32, by kernel_rfl, by kernel_rfl⟩
theorem enters_ref15_Ntt : Enters Go.Proofs.Try.prog 33 := ⟨Go.Proofs.Try.f33, Go.Proofs.Try.func33, by kernel_rfl, by kernel_rfl⟩
theorem enters_dring_Inv : Enters Go.Proofs.Try.prog 34 := ⟨Go.Proofs.Try.f34, Go.Proofs.Try.func34, by kernel_rfl, by kernel_rfl⟩
theorem enters_ref15_Inv : Enters Go.Proofs.Try.prog 35 := ⟨Go.Proofs.Try.f35, Go.Proofs.Try.func35, by kernel_rfl, by kernel_rfl⟩
theorem enters_dring_MulNtt : Enters Go.Proofs.Try.prog 36 := ⟨Go.Proofs.Try.f36, Go.Proofs.Try.func36, by kernel_rfl, by kernel_rfl⟩
theorem enters_ref15_MulNtt : Enters Go.Proofs.Try.prog 37 := ⟨Go.Proofs.Try.f37, Go.Proofs.Try.func37, by kernel_rfl, by kernel_rfl⟩
theorem enters_dring_Mul : Enters Go.Proofs.Try.prog 38 := ⟨Go.Proofs.Try.f38, Go.Proofs.Try.func38, by kernel_rfl, by kernel_rfl⟩
theorem enters_dring_Sub : Enters Go.Proofs.Try.prog 39 := ⟨Go.Proofs.Try.f39, Go.Proofs.Try.func39, by kernel_rfl, by kernel_rfl⟩
theorem enters_ref15_Reduce : Enters Go.Proofs.Try.prog 40 := ⟨Go.Proofs.Try.f40, Go.Proofs.Try.func40, by kernel_rfl, by kernel_rfl⟩
theorem enters_dring_Center : Enters Go.Proofs.Try.prog 41 := ⟨Go.Proofs.Try.f41, Go.Proofs.Try.func41, by kernel_rfl, by kernel_rfl⟩
theorem enters_ref15_Center : Enters Go.Proofs.Try.prog 42 := ⟨Go.Proofs.Try.f42, Go.Proofs.Try.func42, by kernel_rfl, by kernel_rfl⟩
theorem enters_ref15_Norm : Enters Go.Proofs.Try.prog 43 := ⟨Go.Proofs.Try.f43, Go.Proofs.Try.func43, by kernel_rfl, by kernel_rfl⟩
theorem enters_ref15_Add : Enters Go.Proofs.Try.prog 44 := ⟨Go.Proofs.Try.f44, Go.Proofs.Try.func44, by kernel_rfl, by kernel_rfl⟩
theorem enters_ref15_Sub : Enters Go.Proofs.Try.prog 45 := ⟨Go.Proofs.Try.f45, Go.Proofs.Try.func45, by kernel_rfl, by kernel_rfl⟩
theorem enters_ref15_Mul : Enters Go.Proofs.Try.prog 46 := ⟨Go.Proofs.Try.f46, Go.Proofs.Try.func46, by kernel_rfl, by kernel_rfl⟩
theorem enters_dring_Ball : Enters Go.Proofs.Try.prog 47 := ⟨Go.Proofs.Try.f47, Go.Proofs.Try.func47, by kernel_rfl, by kernel_rfl⟩
theorem enters_dring_RejBounded : Enters Go.Proofs.Try.prog 48 := ⟨Go.Proofs.Try.f48, Go.Proofs.Try.func48, by kernel_rfl, by kernel_rfl⟩
theorem enters_dring_Mask : Enters Go.Proofs.Try.prog 49 := ⟨Go.Proofs.Try.f49, Go.Proofs.Try.func49, by kernel_rfl, by kernel_rfl⟩
theorem enters_dring_RejNtt : Enters Go.Proofs.Try.prog 50 := ⟨Go.Proofs.Try.f50, Go.Proofs.Try.func50, by kernel_rfl, by kernel_rfl⟩
theorem enters_ref15_RejNtt : Enters Go.Proofs.Try.prog 51 := ⟨Go.Proofs.Try.f51, Go.Proofs.Try.func51, by kernel_rfl, by kernel_rfl⟩
theorem enters_ref15_RejBounded : Enters Go.Proofs.Try.prog 52 := ⟨Go.Proofs.Try.f52, Go.Proofs.Try.func52, by kernel_rfl, by kernel_rfl⟩
theorem enters_ref15_Mask : Enters Go.Proofs.Try.prog 53 := ⟨Go.Proofs.Try.f53, Go.Proofs.Try.func53, by kernel_rfl, by kernel_rfl⟩
theorem enters_ref15_Ball : Enters Go.Proofs.Try.prog 54 := ⟨Go.Proofs.Try.f54, Go.Proofs.Try.func54, by kernel_rfl, by kernel_rfl⟩
theorem enters_dring_near : Enters Go.Proofs.Try.prog 55 := ⟨Go.Proofs.Try.f55, Go.Proofs.Try.func55, by kernel_rfl, by kernel_rfl⟩
theorem enters_dring_parts : Enters Go.Proofs.Try.prog 56 := ⟨Go.Proofs.Try.f56, Go.Proofs.Try.func56, by kernel_rfl, by kernel_rfl⟩
theorem enters_dring_each : Enters Go.Proofs.Try.prog 57 := ⟨Go.Proofs.Try.f57, Go.Proofs.Try.func57, by kernel_rfl, by kernel_rfl⟩
theorem enters_dring_Reduce_1 : Enters Go.Proofs.Try.prog 58 := ⟨Go.Proofs.Try.f58, Go.Proofs.Try.func58, by kernel_rfl, by kernel_rfl⟩
theorem enters_dring_below : Enters Go.Proofs.Try.prog 59 := ⟨Go.Proofs.Try.f59, Go.Proofs.Try.func59, by kernel_rfl, by kernel_rfl⟩
theorem enters_dring_powers : Enters Go.Proofs.Try.prog 60 := ⟨Go.Proofs.Try.f60, Go.Proofs.Try.func60, by kernel_rfl, by kernel_rfl⟩
theorem enters_dring_times : Enters Go.Proofs.Try.prog 61 := ⟨Go.Proofs.Try.f61, Go.Proofs.Try.func61, by kernel_rfl, by kernel_rfl⟩
theorem enters_ref15_power : Enters Go.Proofs.Try.prog 62 := ⟨Go.Proofs.Try.f62, Go.Proofs.Try.func62, by kernel_rfl, by kernel_rfl⟩
theorem enters_ref15_split : Enters Go.Proofs.Try.prog 63 := ⟨Go.Proofs.Try.f63, Go.Proofs.Try.func63, by kernel_rfl, by kernel_rfl⟩
theorem enters_dring_Inv_1 : Enters Go.Proofs.Try.prog 64 := ⟨Go.Proofs.Try.f64, Go.Proofs.Try.func64, by kernel_rfl, by kernel_rfl⟩
theorem enters_ref15_join : Enters Go.Proofs.Try.prog 65 := ⟨Go.Proofs.Try.f65, Go.Proofs.Try.func65, by kernel_rfl, by kernel_rfl⟩
theorem enters_ref15_mod : Enters Go.Proofs.Try.prog 66 := ⟨Go.Proofs.Try.f66, Go.Proofs.Try.func66, by kernel_rfl, by kernel_rfl⟩
theorem enters_dring_centred : Enters Go.Proofs.Try.prog 67 := ⟨Go.Proofs.Try.f67, Go.Proofs.Try.func67, by kernel_rfl, by kernel_rfl⟩
theorem enters_ref15_size : Enters Go.Proofs.Try.prog 68 := ⟨Go.Proofs.Try.f68, Go.Proofs.Try.func68, by kernel_rfl, by kernel_rfl⟩
theorem enters_keccak_Shake : Enters Go.Proofs.Try.prog 69 := ⟨Go.Proofs.Try.f69, Go.Proofs.Try.func69, by kernel_rfl, by kernel_rfl⟩
theorem enters_dring_half : Enters Go.Proofs.Try.prog 70 := ⟨Go.Proofs.Try.f70, Go.Proofs.Try.func70, by kernel_rfl, by kernel_rfl⟩
theorem enters_dring_UnpackFrom : Enters Go.Proofs.Try.prog 71 := ⟨Go.Proofs.Try.f71, Go.Proofs.Try.func71, by kernel_rfl, by kernel_rfl⟩
theorem enters_keccak_Shake128 : Enters Go.Proofs.Try.prog 72 := ⟨Go.Proofs.Try.f72, Go.Proofs.Try.func72, by kernel_rfl, by kernel_rfl⟩
theorem enters_keccak_Xof_Read : Enters Go.Proofs.Try.prog 73 := ⟨Go.Proofs.Try.f73, Go.Proofs.Try.func73, by kernel_rfl, by kernel_rfl⟩
theorem enters_ref03_Shake : Enters Go.Proofs.Try.prog 74 := ⟨Go.Proofs.Try.f74, Go.Proofs.Try.func74, by kernel_rfl, by kernel_rfl⟩
theorem enters_ref15_UnpackFrom : Enters Go.Proofs.Try.prog 75 := ⟨Go.Proofs.Try.f75, Go.Proofs.Try.func75, by kernel_rfl, by kernel_rfl⟩
theorem enters_ref15_width : Enters Go.Proofs.Try.prog 76 := ⟨Go.Proofs.Try.f76, Go.Proofs.Try.func76, by kernel_rfl, by kernel_rfl⟩
theorem enters_ref01_Bits : Enters Go.Proofs.Try.prog 77 := ⟨Go.Proofs.Try.f77, Go.Proofs.Try.func77, by kernel_rfl, by kernel_rfl⟩
theorem enters_bits_Reverse8 : Enters Go.Proofs.Try.prog 78 := ⟨Go.Proofs.Try.f78, Go.Proofs.Try.func78, by kernel_rfl, by kernel_rfl⟩
theorem enters_keccak_may : Enters Go.Proofs.Try.prog 79 := ⟨Go.Proofs.Try.f79, Go.Proofs.Try.func79, by kernel_rfl, by kernel_rfl⟩
theorem enters_keccak_Shake256 : Enters Go.Proofs.Try.prog 80 := ⟨Go.Proofs.Try.f80, Go.Proofs.Try.func80, by kernel_rfl, by kernel_rfl⟩
theorem enters_dring_Unpack : Enters Go.Proofs.Try.prog 81 := ⟨Go.Proofs.Try.f81, Go.Proofs.Try.func81, by kernel_rfl, by kernel_rfl⟩
theorem enters_dring_UnpackFrom_1 : Enters Go.Proofs.Try.prog 82 := ⟨Go.Proofs.Try.f82, Go.Proofs.Try.func82, by kernel_rfl, by kernel_rfl⟩
theorem enters_keccak_started : Enters Go.Proofs.Try.prog 83 := ⟨Go.Proofs.Try.f83, Go.Proofs.Try.func83, by kernel_rfl, by kernel_rfl⟩
theorem enters_keccak_Xof_none : Enters Go.Proofs.Try.prog 84 := ⟨Go.Proofs.Try.f84, Go.Proofs.Try.func84, by kernel_rfl, by kernel_rfl⟩
theorem enters_keccak_sponge_gives : Enters Go.Proofs.Try.prog 85 := ⟨Go.Proofs.Try.f85, Go.Proofs.Try.func85, by kernel_rfl, by kernel_rfl⟩
theorem enters_ref03_Sponge : Enters Go.Proofs.Try.prog 86 := ⟨Go.Proofs.Try.f86, Go.Proofs.Try.func86, by kernel_rfl, by kernel_rfl⟩
theorem enters_ref15_Unpack : Enters Go.Proofs.Try.prog 87 := ⟨Go.Proofs.Try.f87, Go.Proofs.Try.func87, by kernel_rfl, by kernel_rfl⟩
theorem enters_keccak_sponge_takes : Enters Go.Proofs.Try.prog 88 := ⟨Go.Proofs.Try.f88, Go.Proofs.Try.func88, by kernel_rfl, by kernel_rfl⟩
theorem enters_keccak_Permute : Enters Go.Proofs.Try.prog 89 := ⟨Go.Proofs.Try.f89, Go.Proofs.Try.func89, by kernel_rfl, by kernel_rfl⟩
theorem enters_ref01_Join : Enters Go.Proofs.Try.prog 90 := ⟨Go.Proofs.Try.f90, Go.Proofs.Try.func90, by kernel_rfl, by kernel_rfl⟩
theorem enters_ref03_Permute : Enters Go.Proofs.Try.prog 91 := ⟨Go.Proofs.Try.f91, Go.Proofs.Try.func91, by kernel_rfl, by kernel_rfl⟩
theorem enters_ref03_bytes : Enters Go.Proofs.Try.prog 92 := ⟨Go.Proofs.Try.f92, Go.Proofs.Try.func92, by kernel_rfl, by kernel_rfl⟩
theorem enters_keccak_sponge_put : Enters Go.Proofs.Try.prog 93 := ⟨Go.Proofs.Try.f93, Go.Proofs.Try.func93, by kernel_rfl, by kernel_rfl⟩
theorem enters_keccak_offsets : Enters Go.Proofs.Try.prog 94 := ⟨Go.Proofs.Try.f94, Go.Proofs.Try.func94, by kernel_rfl, by kernel_rfl⟩
theorem enters_keccak_constants : Enters Go.Proofs.Try.prog 95 := ⟨Go.Proofs.Try.f95, Go.Proofs.Try.func95, by kernel_rfl, by kernel_rfl⟩
theorem enters_keccak_mixed : Enters Go.Proofs.Try.prog 96 := ⟨Go.Proofs.Try.f96, Go.Proofs.Try.func96, by kernel_rfl, by kernel_rfl⟩
theorem enters_ref03_constants : Enters Go.Proofs.Try.prog 97 := ⟨Go.Proofs.Try.f97, Go.Proofs.Try.func97, by kernel_rfl, by kernel_rfl⟩
theorem enters_ref03_round : Enters Go.Proofs.Try.prog 98 := ⟨Go.Proofs.Try.f98, Go.Proofs.Try.func98, by kernel_rfl, by kernel_rfl⟩
theorem enters_bits_RotateLeft64 : Enters Go.Proofs.Try.prog 99 := ⟨Go.Proofs.Try.f99, Go.Proofs.Try.func99, by kernel_rfl, by kernel_rfl⟩
theorem enters_ref03_turn : Enters Go.Proofs.Try.prog 100 := ⟨Go.Proofs.Try.f100, Go.Proofs.Try.func100, by kernel_rfl, by kernel_rfl⟩
end Go.Ax.TryP
/-! ### split and join hand a short list back -/
namespace Go.Ax.TryP
noncomputable def rtE : AE := AE.ofI [(3, ty3), (63, ty63)] [] [] [] [] [] []
theorem rtE_ok : rtE.Ok Go.Proofs.Try.prog := AE.ofI_ok (all_cons ty3_ok (all_cons ty63_ok all_nil)) all_nil all_nil all_nil all_nil
theorem half_zero {n : Nat} (h : n < 2) : IntKind.i64.wrap (Int.tdiv (n : Int) 2) = 0 := by
  rw [tdiv_pos (by omega), wrap_i64 (by omega) (by omega)]
  omega
theorem lenOf_spec {v : TV} {n : Nat} (h : lenOf v = some n) : (∃ o es, v = .one (.sc (.vec o n es))) ∨ ∃ o off cap es, v = .one (.sc (.sl o off n cap es)) := by
  unfold lenOf at h
  split at h
  · cases h; exact .inl ⟨_, _, rfl⟩
  · cases h; exact .inr ⟨_, _, _, _, rfl⟩
  · cases h
theorem run_ref15_split_v (mem : List Slot) (n o es : Nat) : (inlOf rtE 0 Go.Proofs.Try.f63).run _ [.one (.sc (.vec o n es)), .one .any] mem rtK = if IntKind.i64.wrap (Int.tdiv (n : Int) 2) = 0 then some ([.sc (.vec o n es)], mem ++ [] ++ [] ++ [] ++ []) else none := by kernel_rfl
theorem run_ref15_split_s (mem : List Slot) (n o off cap es : Nat) : (inlOf rtE 0 Go.Proofs.Try.f63).run _ [.one (.sc (.sl o off n cap es)), .one .any] mem rtK = if IntKind.i64.wrap (Int.tdiv (n : Int) 2) = 0 then some ([.sc (.sl o off n cap es)], mem ++ [] ++ [] ++ [] ++ []) else none := by kernel_rfl
theorem rt_ref15_split : RtOk Go.Proofs.Try.prog 63 0 2 2 := RtOk.of (J := inlOf rtE 0 Go.Proofs.Try.f63) (inlOf_ok rtE_ok mix Go.Proofs.Try.func63 0) fun mem v n hn hlt => by
  rcases lenOf_spec hn with ⟨o, es, rfl⟩ | ⟨o, off, cap, es, rfl⟩
  · refine ⟨_, rfl, (run_ref15_split_v mem n o es).trans ?_⟩
    rw [if_pos (half_zero hlt)]
    simp only [List.append_nil]
  · refine ⟨_, rfl, (run_ref15_split_s mem n o off cap es).trans ?_⟩
    rw [if_pos (half_zero hlt)]
    simp only [List.append_nil]
theorem run_ref15_join_v (mem : List Slot) (n o es : Nat) : (inlOf rtE 0 Go.Proofs.Try.f65).run _ [.one (.sc (.vec o n es)), .one .any] mem rtK = if IntKind.i64.wrap (Int.tdiv (n : Int) 2) = 0 then some ([.sc (.vec o n es)], mem ++ [] ++ [] ++ [] ++ []) else none := by kernel_rfl
theorem run_ref15_join_s (mem : List Slot) (n o off cap es : Nat) : (inlOf rtE 0 Go.Proofs.Try.f65).run _ [.one (.sc (.sl o off n cap es)), .one .any] mem rtK = if IntKind.i64.wrap (Int.tdiv (n : Int) 2) = 0 then some ([.sc (.sl o off n cap es)], mem ++ [] ++ [] ++ [] ++ []) else none := by kernel_rfl
theorem rt_ref15_join : RtOk Go.Proofs.Try.prog 65 0 2 2 := RtOk.of (J := inlOf rtE 0 Go.Proofs.Try.f65) (inlOf_ok rtE_ok mix Go.Proofs.Try.func65 0) fun mem v n hn hlt => by
  rcases lenOf_spec hn with ⟨o, es, rfl⟩ | ⟨o, off, cap, es, rfl⟩
  · refine ⟨_, rfl, (run_ref15_join_v mem n o es).trans ?_⟩
    rw [if_pos (half_zero hlt)]
    simp only [List.append_nil]
  · refine ⟨_, rfl, (run_ref15_join_s mem n o off cap es).trans ?_⟩
    rw [if_pos (half_zero hlt)]
    simp only [List.append_nil]
end Go.Ax.TryP
/-! ### The transform by halves is the transform by layers (the first definitions are those of DringS1, RevS, DringS3) -/
set_option linter.unusedVariables false
namespace Go.Ax.TryP
def dpoly (h : Nat → Int) : List Int := (List.range 256).map h
def fDRed (a : List Int) : List Int := dpoly fun i => a.getD i 0 % 8380417
def rev8 (n : Nat) : Nat := (List.range 8).foldl (fun s i => 2 * s + n / 2 ^ i % 2) 0
def dzeta (k : Nat) : Int := 1753 ^ rev8 k % 8380417
def dnval (s : Nat) (a : List Int) (j : Nat) : Int :=
  if j % (2 * s) < s then (a.getD j 0 + dzeta (128 / s + j / (2 * s)) * a.getD (j + s) 0 % 8380417) % 8380417
  else (a.getD (j - s) 0 - dzeta (128 / s + j / (2 * s)) * a.getD j 0 % 8380417) % 8380417
def dnLayer (s : Nat) (a : List Int) : List Int := dpoly (dnval s a)
def dnStage (a : List Int) : Nat → List Int
  | 0 => fDRed a
  | i + 1 => dnLayer (128 / 2 ^ i) (dnStage a i)
def fDNtt (a : List Int) : List Int := dnStage a 8
/-- The halves' remainders. -/
def spL (n : Nat) (s : Int) (a : List Int) : List Int := (List.range n).map fun i => (a.getD i 0 + a.getD (n + i) 0 * s % 8380417) % 8380417
def spR (n : Nat) (s : Int) (a : List Int) : List Int := (List.range n).map fun i => (a.getD i 0 - a.getD (n + i) 0 * s % 8380417) % 8380417
def splitS : Nat → List Int → Nat → List Int
  | 0, a, _ => a
  | k + 1, a, e => splitS k (spL (2 ^ k) (1753 ^ (e / 2) % 8380417) a) (e / 2) ++ splitS k (spR (2 ^ k) (1753 ^ (e / 2) % 8380417) a) (e / 2 + 256)
theorem rev_halves : ∀ x, x < 128 → 2 * rev8 (2 * x) = rev8 x ∧ 2 * rev8 (2 * x + 1) = rev8 x + 256 := by decide +kernel
def blk (m : Nat) (a : List Int) (b : Nat) : List Int := (a.drop (b * m)).take m
theorem blk_getD {m : Nat} {a : List Int} {b t : Nat} (ht : t < m) : (blk m a b).getD t 0 = a.getD (b * m + t) 0 := by
  unfold blk
  rw [List.getD_eq_getElem?_getD, List.getD_eq_getElem?_getD, List.getElem?_take, if_pos ht, List.getElem?_drop]
theorem dpoly_len (h : Nat → Int) : (dpoly h).length = 256 := by simp [dpoly]
theorem dpoly_getD {h : Nat → Int} {i : Nat} (hi : i < 256) : (dpoly h).getD i 0 = h i := map_range_getD hi
theorem blk_len {m : Nat} {a : List Int} {b : Nat} (h : b * m + m ≤ a.length) : (blk m a b).length = m := by
  unfold blk
  rw [List.length_take, List.length_drop]
  omega
/-- A layer halves each block. -/
theorem blk_layer {s n : Nat} (hs : 0 < s) (hn : n * s = 128) {a : List Int} (ha : a.length = 256) {b : Nat} (hb : b < n) :
    blk s (dnLayer s a) (2 * b) = spL s (dzeta (n + b)) (blk (2 * s) a b) ∧ blk s (dnLayer s a) (2 * b + 1) = spR s (dzeta (n + b)) (blk (2 * s) a b) := by
  have hdiv : 128 / s = n := by rw [← hn]; exact Nat.mul_div_cancel n hs
  have hbs : b * s + s ≤ 128 := by
    have := Nat.mul_le_mul_right s (show b + 1 ≤ n by omega)
    rw [Nat.add_mul, Nat.one_mul, hn] at this
    exact this
  have e1 : 2 * b * s = 2 * (b * s) := Nat.mul_assoc 2 b s
  have e2 : (2 * b + 1) * s = 2 * (b * s) + s := by rw [Nat.add_mul, Nat.one_mul, e1]
  have e3 : b * (2 * s) = 2 * (b * s) := by rw [← Nat.mul_assoc, Nat.mul_comm b 2, Nat.mul_assoc]
  have e4 : 2 * s * b = 2 * (b * s) := by rw [Nat.mul_assoc, Nat.mul_comm s b]
  constructor
  · refine rows.ext (n := s) (blk_len (by rw [dnLayer, dpoly_len, e1]; omega)) (by simp [spL]) fun t ht => ?_
    rw [blk_getD ht, e1]
    unfold dnLayer spL
    rw [dpoly_getD (by omega), map_range_getD ht, blk_getD (by omega), blk_getD (by omega), e3]
    unfold dnval
    have m1 : (2 * (b * s) + t) % (2 * s) = t := by rw [← e4, Nat.mul_add_mod, Nat.mod_eq_of_lt (by omega)]
    have m2 : (2 * (b * s) + t) / (2 * s) = b := by rw [← e4, Nat.mul_add_div (by omega), Nat.div_eq_of_lt (by omega), Nat.add_zero]
    rw [m1, m2, if_pos ht, hdiv, Int.mul_comm (dzeta (n + b)), show 2 * (b * s) + t + s = 2 * (b * s) + (s + t) by omega]
  · refine rows.ext (n := s) (blk_len (by rw [dnLayer, dpoly_len, e2]; omega)) (by simp [spR]) fun t ht => ?_
    rw [blk_getD ht, e2]
    unfold dnLayer spR
    rw [dpoly_getD (by omega), map_range_getD ht, blk_getD (by omega), blk_getD (by omega), e3]
    unfold dnval
    have m1 : (2 * (b * s) + s + t) % (2 * s) = s + t := by rw [Nat.add_assoc, ← e4, Nat.mul_add_mod, Nat.mod_eq_of_lt (by omega)]
    have m2 : (2 * (b * s) + s + t) / (2 * s) = b := by rw [Nat.add_assoc, ← e4, Nat.mul_add_div (by omega), Nat.div_eq_of_lt (by omega), Nat.add_zero]
    rw [m1, m2, if_neg (by omega), hdiv, Int.mul_comm (dzeta (n + b)), show 2 * (b * s) + s + t - s = 2 * (b * s) + t by omega, show 2 * (b * s) + s + t = 2 * (b * s) + (s + t) by omega]
theorem flatMap_two {α : Type} (f : Nat → List α) : ∀ n, (List.range (2 * n)).flatMap f = (List.range n).flatMap fun b => f (2 * b) ++ f (2 * b + 1)
  | 0 => rfl
  | n + 1 => by
    rw [show 2 * (n + 1) = 2 * n + 1 + 1 by omega, List.range_succ, List.range_succ, List.range_succ]
    simp only [List.flatMap_append, flatMap_two f n, List.flatMap_cons, List.flatMap_nil, List.append_nil, List.append_assoc]
def catS (i : Nat) (a : List Int) : List Int := (List.range (2 ^ i)).flatMap fun b => splitS (8 - i) (blk (2 ^ (8 - i)) a b) (2 * rev8 (2 ^ i + b))
theorem cat_step {i : Nat} (hi : i < 8) {a : List Int} (ha : a.length = 256) : catS i a = catS (i + 1) (dnLayer (2 ^ (7 - i)) a) := by
  unfold catS
  rw [Nat.pow_succ, Nat.mul_comm (2 ^ i) 2, flatMap_two]
  refine congrArg List.flatten (List.map_congr_left fun b hb => ?_)
  have hb : b < 2 ^ i := List.mem_range.1 hb
  have hk : 8 - i = (7 - i) + 1 := by omega
  have hs : 2 ^ i * 2 ^ (7 - i) = 128 := by rw [← Nat.pow_add, show i + (7 - i) = 7 by omega]
  obtain ⟨h1, h2⟩ := blk_layer (Nat.two_pow_pos (7 - i)) hs ha hb
  have hle : 2 ^ i ≤ 2 ^ 7 := Nat.pow_le_pow_right (by omega) (by omega)
  have hx : 2 ^ i + b < 256 := by omega
  have hx2 : 2 ^ i + b < 128 ∨ i = 7 := by
    rcases Nat.lt_or_ge i 7 with h | h
    · have : 2 ^ i ≤ 2 ^ 6 := Nat.pow_le_pow_right (by omega) (by omega)
      exact .inl (by omega)
    · exact .inr (by omega)
  rw [hk, show 8 - (i + 1) = 7 - i by omega, splitS, h1, h2, Nat.mul_div_cancel_left _ (show 0 < 2 by omega), show 2 * 2 ^ i + 2 * b = 2 * (2 ^ i + b) by omega, show 2 * 2 ^ i + (2 * b + 1) = 2 * (2 ^ i + b) + 1 by omega, Nat.pow_succ, Nat.mul_comm (2 ^ (7 - i)) 2]
  rcases hx2 with hx2 | rfl
  · obtain ⟨r1, r2⟩ := rev_halves _ hx2
    rw [r1, r2]
    rfl
  · rfl
theorem stage_len (a : List Int) : ∀ i, (dnStage a i).length = 256
  | 0 => dpoly_len _
  | _ + 1 => dpoly_len _
theorem pow_half {i : Nat} (hi : i < 8) : 128 / 2 ^ i = 2 ^ (7 - i) := by
  have hs : 2 ^ (7 - i) * 2 ^ i = 128 := by rw [← Nat.pow_add, show 7 - i + i = 7 by omega]
  rw [← hs]
  exact Nat.mul_div_cancel _ (Nat.two_pow_pos i)
theorem cat_all (a : List Int) : ∀ i, i ≤ 8 → catS 0 (fDRed a) = catS i (dnStage a i)
  | 0, _ => rfl
  | i + 1, hi => by
    rw [cat_all a i (by omega), cat_step (show i < 8 by omega) (stage_len a i)]
    show _ = catS (i + 1) (dnLayer (128 / 2 ^ i) (dnStage a i))
    rw [pow_half (by omega)]
theorem blk_one : ∀ (n : Nat) (a : List Int), a.length = n → (List.range n).flatMap (fun b => blk 1 a b) = a := by
  intro n a h
  refine List.ext_getElem? fun j => ?_
  have key : ∀ m, m ≤ n → (List.range m).flatMap (fun b => blk 1 a b) = a.take m := by
    intro m
    induction m with
    | zero => intro _; simp
    | succ m ih =>
      intro hm
      rw [List.range_succ, List.flatMap_append, ih (by omega), List.take_succ_eq_append_getElem (show m < a.length by omega)]
      congr 1
      simp only [List.flatMap_cons, List.flatMap_nil, List.append_nil, blk, Nat.mul_one]
      exact drop_take_one (List.getElem?_eq_getElem (show m < a.length by omega))
  rw [key n (Nat.le_refl n), ← h, List.take_length]
/-- The transform by halves. -/
theorem split_ntt (a : List Int) : splitS 8 (fDRed a) 256 = fDNtt a := by
  have h := cat_all a 8 (Nat.le_refl 8)
  have h0 : catS 0 (fDRed a) = splitS 8 (fDRed a) 256 := by
    unfold catS
    have e1 : 2 * rev8 (1 + 0) = 256 := by decide +kernel
    have e2 : blk (2 ^ 8) (fDRed a) 0 = fDRed a := by
      unfold blk
      rw [Nat.zero_mul, List.drop_zero, List.take_of_length_le (by rw [fDRed, dpoly_len]; decide)]
    simp only [Nat.pow_zero, List.range_one, List.flatMap_cons, List.flatMap_nil, List.append_nil, Nat.sub_zero]
    rw [e1, e2]
  rw [← h0, h]
  unfold catS fDNtt
  exact blk_one 256 _ (stage_len a 8)
end Go.Ax.TryP
/-! ### The document's transform: what the functions answer -/
namespace Go.Ax.TryP
noncomputable def g_ref15_power : Int × Int × Unit → Option Int := Spec (ks := [.int .i64, .int .i64]) (rs := [.int .i64]) (fun x => (0 ≤ x.1 ∧ x.1 ≤ 8380416) ∧ 0 ≤ x.2.1 ∧ x.2.1 ≤ 1000) fun x => x.1 ^ x.2.1.toNat % 8380417
noncomputable def g_ref15_mod : Int × Unit → Option Int := Spec (ks := [.int .i64]) (rs := [.int .i64]) (fun _ => True) fun x => x.1 % 8380417
/-- What is told of split and of join, for shorter slices. -/
class SplitG where
  g : List Int × Int × Unit → Option (List Int)
noncomputable def g_ref15_split [SplitG] : List Int × Int × Unit → Option (List Int) := SplitG.g
class JoinG where
  g : List Int × Int × Unit → Option (List Int)
noncomputable def g_ref15_join [JoinG] : List Int × Int × Unit → Option (List Int) := JoinG.g
end Go.Ax.TryP
/-! Printed by program (gen.py). -/
set_option linter.unusedVariables false
namespace Go.Ax.TryP
variable [SplitG]
/-! livery/liveryref15.split -/
noncomputable def p_ref15_split_E : AE := AE.ofR [(2, ty2), (63, ty63)] [(62, ⟨[.int .i64, .int .i64], [.int .i64], g_ref15_power⟩), (66, ⟨[.int .i64], [.int .i64], g_ref15_mod⟩), (63, ⟨[.sl (.int .i64), .int .i64], [.sl (.int .i64)], g_ref15_split⟩)] [(63, 0, 2, 2)]
noncomputable def p_ref15_split_H : Hints := [(7, [0, 1, 5, 6, 7, 8, 24, 25]), (2000000, [1, 7, 8]), (2000001, [0, 1, 5, 6, 7, 8, 24, 25]), (3000000, [4])]
noncomputable def p_ref15_split_c : Code := (Go.Proofs.Try.f63).body.getD .skip
noncomputable def p_ref15_split_l7_S : Shape where
  h := { tmps := [.sc (.vec 0 none 1), .sc (.int .i64), .any, .any, .any, .sc (.int .i64), .sc (.int .i64), .sc (.vec 1 none 1), .sc (.vec 2 none 1), .any, .any, .any, .any, .any, .any, .any, .any, .any, .any, .any, .any, .any, .any, .any, .sc (.int .i64), .sc (.int .i64), .any, .any, .any, .any, .any, .any, .any, .any, .any, .any, .any, .any, .any, .any, .any, .any, .any, .any, .any, .any, .any, .any, .any, .any, .any, .any, .any, .any, .any, .any, .any, .any, .any, .any, .any, .any, .any, .any, .any, .any, .any, .any], mem := [.live [.xs (.int .i64) none] (.ro), .live [.xs (.int .i64) none] (.own), .live [.xs (.int .i64) none] (.own)] }
  ks := [.nat, .int, .int, .int, .nat, .nat, .int, .int, .nat, .xs, .nat, .xs, .nat, .xs]
  st := fun x => { tmps := [.one (.sc (.vec 0 x.1 1)), .one (.sc (.int .i64 x.2.1)), .one .any, .one .any, .one .any, .one (.sc (.int .i64 x.2.2.1)), .one (.sc (.int .i64 x.2.2.2.1)), .one (.sc (.vec 1 x.2.2.2.2.1 1)), .one (.sc (.vec 2 x.2.2.2.2.2.1 1)), .one .any, .one .any, .one .any, .one .any, .one .any, .one .any, .one .any, .one .any, .one .any, .one .any, .one .any, .one .any, .one .any, .one .any, .one .any, .one (.sc (.int .i64 x.2.2.2.2.2.2.1)), .one (.sc (.int .i64 x.2.2.2.2.2.2.2.1)), .one .any, .one .any, .one .any, .one .any, .one .any, .one .any, .one .any, .one .any, .one .any, .one .any, .one .any, .one .any, .one .any, .one .any, .one .any, .one .any, .one .any, .one .any, .one .any, .one .any, .one .any, .one .any, .one .any, .one .any, .one .any, .one .any, .one .any, .one .any, .one .any, .one .any, .one .any, .one .any, .one .any, .one .any, .one .any, .one .any, .one .any, .one .any, .one .any, .one .any, .one .any, .one .any], mem := [.live { segs := [.xs (.int .i64) x.2.2.2.2.2.2.2.2.1 x.2.2.2.2.2.2.2.2.2.1], own := .ro }, .live { segs := [.xs (.int .i64) x.2.2.2.2.2.2.2.2.2.2.1 x.2.2.2.2.2.2.2.2.2.2.2.1], own := .own }, .live { segs := [.xs (.int .i64) x.2.2.2.2.2.2.2.2.2.2.2.2.1 x.2.2.2.2.2.2.2.2.2.2.2.2.2.1], own := .own }] }
noncomputable def p_ref15_split_l7_F (N : Nat) (β : Type) (x : (Nat × Int × Int × Int × Nat × Nat × Int × Int × Nat × List Int × Nat × List Int × Nat × List Int × Unit)) (kn : (Nat × Int × Int × Int × Nat × Nat × Int × Int × Nat × List Int × Nat × List Int × Nat × List Int × Unit) → Option β) (ke : ((Int × Nat × Nat × Nat × List Int × Nat × List Int × Unit)) → Option β) : Option β :=
  if (x.2.2.2.2.2.2.2.1 < x.2.2.2.2.2.2.1) then
    if 0 ≤ (IntKind.i64.wrap (x.2.2.1 + x.2.2.2.2.2.2.2.1)) then (
    if (IntKind.i64.wrap (x.2.2.1 + x.2.2.2.2.2.2.2.1)) < ((x.1 : Nat) : Int) then (
    if ((IntKind.i64.wrap (x.2.2.1 + x.2.2.2.2.2.2.2.1)).toNat) < x.2.2.2.2.2.2.2.2.1 then (
    if 0 ≤ x.2.2.2.2.2.2.2.1 then (
    if x.2.2.2.2.2.2.2.1 < ((x.1 : Nat) : Int) then (
    if (x.2.2.2.2.2.2.2.1.toNat) < x.2.2.2.2.2.2.2.2.1 then (
    if 0 ≤ x.2.2.2.2.2.2.2.1 then (
    if x.2.2.2.2.2.2.2.1 < ((x.2.2.2.2.1 : Nat) : Int) then (
    if (x.2.2.2.2.2.2.2.1.toNat) < x.2.2.2.2.2.2.2.2.2.2.1 then (
    if 0 ≤ x.2.2.2.2.2.2.2.1 then (
    if x.2.2.2.2.2.2.2.1 < ((x.1 : Nat) : Int) then (
    if (x.2.2.2.2.2.2.2.1.toNat) < x.2.2.2.2.2.2.2.2.1 then (
    (g_ref15_mod ((IntKind.i64.wrap ((List.getD x.2.2.2.2.2.2.2.2.2.1 (x.2.2.2.2.2.2.2.1.toNat) 0) - (Int.tmod (IntKind.i64.wrap ((List.getD x.2.2.2.2.2.2.2.2.2.1 ((IntKind.i64.wrap (x.2.2.1 + x.2.2.2.2.2.2.2.1)).toNat) 0) * x.2.2.2.1)) (8380417:Int)))), ())).bind fun r2 => (
    if 0 ≤ x.2.2.2.2.2.2.2.1 then (
    if x.2.2.2.2.2.2.2.1 < ((x.2.2.2.2.2.1 : Nat) : Int) then (
    if (x.2.2.2.2.2.2.2.1.toNat) < x.2.2.2.2.2.2.2.2.2.2.2.2.1 then (
    kn (x.1, x.2.1, x.2.2.1, x.2.2.2.1, x.2.2.2.2.1, x.2.2.2.2.2.1, x.2.2.2.2.2.2.1, (IntKind.i64.wrap (x.2.2.2.2.2.2.2.1 + (1:Int))), x.2.2.2.2.2.2.2.2.1, x.2.2.2.2.2.2.2.2.2.1, x.2.2.2.2.2.2.2.2.2.2.1, (List.set x.2.2.2.2.2.2.2.2.2.2.2.1 (x.2.2.2.2.2.2.2.1.toNat) (Int.tmod (IntKind.i64.wrap ((List.getD x.2.2.2.2.2.2.2.2.2.1 (x.2.2.2.2.2.2.2.1.toNat) 0) + (Int.tmod (IntKind.i64.wrap ((List.getD x.2.2.2.2.2.2.2.2.2.1 ((IntKind.i64.wrap (x.2.2.1 + x.2.2.2.2.2.2.2.1)).toNat) 0) * x.2.2.2.1)) (8380417:Int)))) (8380417:Int))), x.2.2.2.2.2.2.2.2.2.2.2.2.1, (List.set x.2.2.2.2.2.2.2.2.2.2.2.2.2.1 (x.2.2.2.2.2.2.2.1.toNat) r2), ())) else none) else none) else none)) else none) else none) else none) else none) else none) else none) else none) else none) else none) else none) else none) else none
  else
    ke (x.2.1, x.2.2.2.2.1, x.2.2.2.2.2.1, x.2.2.2.2.2.2.2.2.2.2.1, x.2.2.2.2.2.2.2.2.2.2.2.1, x.2.2.2.2.2.2.2.2.2.2.2.2.1, x.2.2.2.2.2.2.2.2.2.2.2.2.2.1, ())
noncomputable def p_ref15_split_l7_go : Go' ((Int × Nat × Nat × Nat × List Int × Nat × List Int × Unit)) := fun y K => K (.exit 0) { tmps := [.one .any, .one (.sc (.int .i64 y.1)), .one .any, .one .any, .one .any, .one .any, .one .any, .one (.sc (.vec 0 y.2.1 1)), .one (.sc (.vec 1 y.2.2.1 1)), .one .any, .one .any, .one .any, .one .any, .one .any, .one .any, .one .any, .one .any, .one .any, .one .any, .one .any, .one .any, .one .any, .one .any, .one .any, .one .any, .one .any, .one .any, .one .any, .one .any, .one .any, .one .any, .one .any, .one .any, .one .any, .one .any, .one .any, .one .any, .one .any, .one .any, .one .any, .one .any, .one .any, .one .any, .one .any, .one .any, .one .any, .one .any, .one .any, .one .any, .one .any, .one .any, .one .any, .one .any, .one .any, .one .any, .one .any, .one .any, .one .any, .one .any, .one .any, .one .any, .one .any, .one .any, .one .any, .one .any, .one .any, .one .any, .one .any], mem := [.live { segs := [.xs (.int .i64) y.2.2.2.1 y.2.2.2.2.1], own := .own }, .live { segs := [.xs (.int .i64) y.2.2.2.2.2.1 y.2.2.2.2.2.2.1], own := .own }] }
noncomputable def p_ref15_split_l7_L (N : Nat) : LT := upd (LT.nil) 7 (loopE p_ref15_split_l7_S N (p_ref15_split_l7_F N) p_ref15_split_l7_go)
theorem p_ref15_split_l7_ok (N : Nat) : OkAll p_ref15_split_E p_ref15_split_H N (p_ref15_split_l7_L N) (subs p_ref15_split_c) :=
  addLoop (c := theLoop 7 p_ref15_split_c) (OkAll.nil) (by kernel_rfl) (fun x => by kernel_rfl) (fun β x kn ke => by kernel_rfl)
abbrev p_ref15_split_ks : List Kd := [.sl (.int .i64), .int .i64]
abbrev p_ref15_split_rs : List Kd := [.sl (.int .i64)]
noncomputable def p_ref15_split (N : Nat) (x : List Int × Int × Unit) : Option (List Int) :=
  if ((IntKind.i64.wrap (Int.tdiv (((List.length x.1) : Nat) : Int) (2:Int))) = (0:Int)) then none else (
  (g_ref15_power ((1753:Int), (IntKind.i64.wrap (Int.tdiv x.2.1 (2:Int))), ())).bind fun r1 => (
  if 0 ≤ (IntKind.i64.wrap (Int.tdiv (((List.length x.1) : Nat) : Int) (2:Int))) then (
  if (IntKind.i64.wrap (Int.tdiv (((List.length x.1) : Nat) : Int) (2:Int))) = (IntKind.i64.wrap (Int.tdiv (((List.length x.1) : Nat) : Int) (2:Int))) then (
  if (IntKind.i64.wrap (Int.tdiv (((List.length x.1) : Nat) : Int) (2:Int))) * 8 ≤ 281474976710656 then (
  if 0 ≤ (IntKind.i64.wrap (Int.tdiv (((List.length x.1) : Nat) : Int) (2:Int))) then (
  if (IntKind.i64.wrap (Int.tdiv (((List.length x.1) : Nat) : Int) (2:Int))) = (IntKind.i64.wrap (Int.tdiv (((List.length x.1) : Nat) : Int) (2:Int))) then (
  if (IntKind.i64.wrap (Int.tdiv (((List.length x.1) : Nat) : Int) (2:Int))) * 8 ≤ 281474976710656 then (
  iter (p_ref15_split_l7_F N) N ((List.length x.1), x.2.1, (IntKind.i64.wrap (Int.tdiv (((List.length x.1) : Nat) : Int) (2:Int))), r1, ((IntKind.i64.wrap (Int.tdiv (((List.length x.1) : Nat) : Int) (2:Int))).toNat), ((IntKind.i64.wrap (Int.tdiv (((List.length x.1) : Nat) : Int) (2:Int))).toNat), (IntKind.i64.wrap (Int.tdiv (((List.length x.1) : Nat) : Int) (2:Int))), (0:Int), (List.length x.1), x.1, ((IntKind.i64.wrap (Int.tdiv (((List.length x.1) : Nat) : Int) (2:Int))).toNat), (List.replicate ((IntKind.i64.wrap (Int.tdiv (((List.length x.1) : Nat) : Int) (2:Int))).toNat) 0), ((IntKind.i64.wrap (Int.tdiv (((List.length x.1) : Nat) : Int) (2:Int))).toNat), (List.replicate ((IntKind.i64.wrap (Int.tdiv (((List.length x.1) : Nat) : Int) (2:Int))).toNat) 0), ()) fun y3 => (
  if y3.2.1 < 2 then
    if y3.2.2.1 < 2 then
      if (y3.2.1 + y3.2.2.1) * 8 ≤ 140737488355328 then (
      some (y3.2.2.2.2.1 ++ y3.2.2.2.2.2.2.1)) else none
    else
      (g_ref15_split (y3.2.2.2.2.2.2.1, (IntKind.i64.wrap ((IntKind.i64.wrap (Int.tdiv y3.1 (2:Int))) + (256:Int))), ())).bind fun r6 => (
      if (y3.2.1 + (List.length r6)) * 8 ≤ 140737488355328 then (
      some (y3.2.2.2.2.1 ++ r6)) else none)
  else
    (g_ref15_split (y3.2.2.2.2.1, (IntKind.i64.wrap (Int.tdiv y3.1 (2:Int))), ())).bind fun r4 => (
    if y3.2.2.1 < 2 then
      if ((List.length r4) + y3.2.2.1) * 8 ≤ 140737488355328 then (
      some (r4 ++ y3.2.2.2.2.2.2.1)) else none
    else
      (g_ref15_split (y3.2.2.2.2.2.2.1, (IntKind.i64.wrap ((IntKind.i64.wrap (Int.tdiv y3.1 (2:Int))) + (256:Int))), ())).bind fun r5 => (
      if ((List.length r4) + (List.length r5)) * 8 ≤ 140737488355328 then (
      some (r4 ++ r5)) else none)))) else none) else none) else none) else none) else none) else none))
theorem p_ref15_split_eq (N : Nat) (x : Ds [.sl (.int .i64), .int .i64]) : funL p_ref15_split_E p_ref15_split_H (p_ref15_split_l7_L N) N Go.Proofs.Try.f63 p_ref15_split_c [.sl (.int .i64), .int .i64] [.sl (.int .i64)] x = p_ref15_split N x := by kernel_rfl
theorem p_ref15_split_Eok (he_ref15_power : SigOk Go.Proofs.Try.prog 62 ⟨[.int .i64, .int .i64], [.int .i64], g_ref15_power⟩) (he_ref15_mod : SigOk Go.Proofs.Try.prog 66 ⟨[.int .i64], [.int .i64], g_ref15_mod⟩) (he_ref15_split : SigOk Go.Proofs.Try.prog 63 ⟨[.sl (.int .i64), .int .i64], [.sl (.int .i64)], g_ref15_split⟩) : p_ref15_split_E.Ok Go.Proofs.Try.prog := AE.ofR_ok (all_cons ty2_ok (all_cons ty63_ok all_nil)) (all_cons ⟨he_ref15_power, enters_ref15_power⟩ (all_cons ⟨he_ref15_mod, enters_ref15_mod⟩ (all_cons ⟨he_ref15_split, enters_ref15_split⟩ all_nil))) (all_cons ⟨rt_ref15_split, enters_ref15_split⟩ all_nil)
theorem p_ref15_split_ok (he_ref15_power : SigOk Go.Proofs.Try.prog 62 ⟨[.int .i64, .int .i64], [.int .i64], g_ref15_power⟩) (he_ref15_mod : SigOk Go.Proofs.Try.prog 66 ⟨[.int .i64], [.int .i64], g_ref15_mod⟩) (he_ref15_split : SigOk Go.Proofs.Try.prog 63 ⟨[.sl (.int .i64), .int .i64], [.sl (.int .i64)], g_ref15_split⟩) {g : Ds [.sl (.int .i64), .int .i64] → Option (Rs [.sl (.int .i64)])} (hg : ∀ x r, g x = some r → ∃ N, p_ref15_split N x = some r) : SigOk Go.Proofs.Try.prog 63 ⟨[.sl (.int .i64), .int .i64], [.sl (.int .i64)], g⟩ :=
  fun_of (E := p_ref15_split_E) (H := p_ref15_split_H) (L := fun N => p_ref15_split_l7_L N) (c := p_ref15_split_c) (ks := p_ref15_split_ks) (rs := p_ref15_split_rs) (F := p_ref15_split) (p_ref15_split_Eok he_ref15_power he_ref15_mod he_ref15_split) mix Go.Proofs.Try.func63 (by kernel_rfl) (fun N => p_ref15_split_l7_ok N) p_ref15_split_eq hg
end Go.Ax.TryP
/-! Printed by program (gen.py). -/
set_option linter.unusedVariables false
namespace Go.Ax.TryP
variable [JoinG]
/-! livery/liveryref15.join -/
noncomputable def p_ref15_join_E : AE := AE.ofR [(2, ty2), (63, ty63)] [(65, ⟨[.sl (.int .i64), .int .i64], [.sl (.int .i64)], g_ref15_join⟩), (62, ⟨[.int .i64, .int .i64], [.int .i64], g_ref15_power⟩), (66, ⟨[.int .i64], [.int .i64], g_ref15_mod⟩)] [(65, 0, 2, 2)]
noncomputable def p_ref15_join_H : Hints := [(9, [5, 6, 7, 8, 9, 10, 41, 42]), (2000000, [10]), (2000001, [5, 6, 7, 8, 9, 10, 41, 42]), (3000000, [4])]
noncomputable def p_ref15_join_c : Code := (Go.Proofs.Try.f65).body.getD .skip
noncomputable def p_ref15_join_l9_S : Shape where
  h := { tmps := [.any, .any, .any, .any, .any, .sc (.int .i64), .sc (.vec 0 none 1), .sc (.vec 1 none 1), .sc (.int .i64), .sc (.int .i64), .sc (.vec 2 none 1), .any, .any, .any, .any, .any, .any, .any, .any, .any, .any, .any, .any, .any, .any, .any, .any, .any, .any, .any, .any, .any, .any, .any, .any, .any, .any, .any, .any, .any, .any, .sc (.int .i64), .sc (.int .i64), .any, .any, .any, .any, .any, .any, .any, .any, .any, .any, .any, .any, .any, .any, .any, .any, .any, .any, .any, .any, .any, .any, .any, .any, .any, .any, .any, .any, .any, .any, .any, .any, .any, .any, .any, .any, .any, .any], mem := [.live [.xs (.int .i64) none] (.own), .live [.xs (.int .i64) none] (.own), .live [.xs (.int .i64) none] (.own)] }
  ks := [.int, .nat, .nat, .int, .int, .nat, .int, .int, .nat, .xs, .nat, .xs, .nat, .xs]
  st := fun x => { tmps := [.one .any, .one .any, .one .any, .one .any, .one .any, .one (.sc (.int .i64 x.1)), .one (.sc (.vec 0 x.2.1 1)), .one (.sc (.vec 1 x.2.2.1 1)), .one (.sc (.int .i64 x.2.2.2.1)), .one (.sc (.int .i64 x.2.2.2.2.1)), .one (.sc (.vec 2 x.2.2.2.2.2.1 1)), .one .any, .one .any, .one .any, .one .any, .one .any, .one .any, .one .any, .one .any, .one .any, .one .any, .one .any, .one .any, .one .any, .one .any, .one .any, .one .any, .one .any, .one .any, .one .any, .one .any, .one .any, .one .any, .one .any, .one .any, .one .any, .one .any, .one .any, .one .any, .one .any, .one .any, .one (.sc (.int .i64 x.2.2.2.2.2.2.1)), .one (.sc (.int .i64 x.2.2.2.2.2.2.2.1)), .one .any, .one .any, .one .any, .one .any, .one .any, .one .any, .one .any, .one .any, .one .any, .one .any, .one .any, .one .any, .one .any, .one .any, .one .any, .one .any, .one .any, .one .any, .one .any, .one .any, .one .any, .one .any, .one .any, .one .any, .one .any, .one .any, .one .any, .one .any, .one .any, .one .any, .one .any, .one .any, .one .any, .one .any, .one .any, .one .any, .one .any, .one .any], mem := [.live { segs := [.xs (.int .i64) x.2.2.2.2.2.2.2.2.1 x.2.2.2.2.2.2.2.2.2.1], own := .own }, .live { segs := [.xs (.int .i64) x.2.2.2.2.2.2.2.2.2.2.1 x.2.2.2.2.2.2.2.2.2.2.2.1], own := .own }, .live { segs := [.xs (.int .i64) x.2.2.2.2.2.2.2.2.2.2.2.2.1 x.2.2.2.2.2.2.2.2.2.2.2.2.2.1], own := .own }] }
noncomputable def p_ref15_join_l9_F (N : Nat) (β : Type) (x : (Int × Nat × Nat × Int × Int × Nat × Int × Int × Nat × List Int × Nat × List Int × Nat × List Int × Unit)) (kn : (Int × Nat × Nat × Int × Int × Nat × Int × Int × Nat × List Int × Nat × List Int × Nat × List Int × Unit) → Option β) (ke : ((Nat × Nat × List Int × Unit)) → Option β) : Option β :=
  if (x.2.2.2.2.2.2.2.1 < x.2.2.2.2.2.2.1) then
    if 0 ≤ x.2.2.2.2.2.2.2.1 then (
    if x.2.2.2.2.2.2.2.1 < ((x.2.1 : Nat) : Int) then (
    if (x.2.2.2.2.2.2.2.1.toNat) < x.2.2.2.2.2.2.2.2.1 then (
    if 0 ≤ x.2.2.2.2.2.2.2.1 then (
    if x.2.2.2.2.2.2.2.1 < ((x.2.2.1 : Nat) : Int) then (
    if (x.2.2.2.2.2.2.2.1.toNat) < x.2.2.2.2.2.2.2.2.2.2.1 then (
    if 0 ≤ x.2.2.2.2.2.2.2.1 then (
    if x.2.2.2.2.2.2.2.1 < ((x.2.2.2.2.2.1 : Nat) : Int) then (
    if (x.2.2.2.2.2.2.2.1.toNat) < x.2.2.2.2.2.2.2.2.2.2.2.2.1 then (
    if 0 ≤ x.2.2.2.2.2.2.2.1 then (
    if x.2.2.2.2.2.2.2.1 < ((x.2.1 : Nat) : Int) then (
    if (x.2.2.2.2.2.2.2.1.toNat) < x.2.2.2.2.2.2.2.2.1 then (
    if 0 ≤ x.2.2.2.2.2.2.2.1 then (
    if x.2.2.2.2.2.2.2.1 < ((x.2.2.1 : Nat) : Int) then (
    if (x.2.2.2.2.2.2.2.1.toNat) < x.2.2.2.2.2.2.2.2.2.2.1 then (
    (g_ref15_mod ((IntKind.i64.wrap ((List.getD x.2.2.2.2.2.2.2.2.2.1 (x.2.2.2.2.2.2.2.1.toNat) 0) - (List.getD x.2.2.2.2.2.2.2.2.2.2.2.1 (x.2.2.2.2.2.2.2.1.toNat) 0))), ())).bind fun r4 => (
    if 0 ≤ (IntKind.i64.wrap (x.1 + x.2.2.2.2.2.2.2.1)) then (
    if (IntKind.i64.wrap (x.1 + x.2.2.2.2.2.2.2.1)) < ((x.2.2.2.2.2.1 : Nat) : Int) then (
    if ((IntKind.i64.wrap (x.1 + x.2.2.2.2.2.2.2.1)).toNat) < x.2.2.2.2.2.2.2.2.2.2.2.2.1 then (
    kn (x.1, x.2.1, x.2.2.1, x.2.2.2.1, x.2.2.2.2.1, x.2.2.2.2.2.1, x.2.2.2.2.2.2.1, (IntKind.i64.wrap (x.2.2.2.2.2.2.2.1 + (1:Int))), x.2.2.2.2.2.2.2.2.1, x.2.2.2.2.2.2.2.2.2.1, x.2.2.2.2.2.2.2.2.2.2.1, x.2.2.2.2.2.2.2.2.2.2.2.1, x.2.2.2.2.2.2.2.2.2.2.2.2.1, (List.set (List.set x.2.2.2.2.2.2.2.2.2.2.2.2.2.1 (x.2.2.2.2.2.2.2.1.toNat) (Int.tmod (IntKind.i64.wrap ((Int.tmod (IntKind.i64.wrap ((List.getD x.2.2.2.2.2.2.2.2.2.1 (x.2.2.2.2.2.2.2.1.toNat) 0) + (List.getD x.2.2.2.2.2.2.2.2.2.2.2.1 (x.2.2.2.2.2.2.2.1.toNat) 0))) (8380417:Int)) * x.2.2.2.1)) (8380417:Int))) ((IntKind.i64.wrap (x.1 + x.2.2.2.2.2.2.2.1)).toNat) (Int.tmod (IntKind.i64.wrap (r4 * x.2.2.2.2.1)) (8380417:Int))), ())) else none) else none) else none)) else none) else none) else none) else none) else none) else none) else none) else none) else none) else none) else none) else none) else none) else none) else none
  else
    ke (x.2.2.2.2.2.1, x.2.2.2.2.2.2.2.2.2.2.2.2.1, x.2.2.2.2.2.2.2.2.2.2.2.2.2.1, ())
noncomputable def p_ref15_join_l9_go : Go' ((Nat × Nat × List Int × Unit)) := fun y K => K (.exit 0) { tmps := [.one .any, .one .any, .one .any, .one .any, .one .any, .one .any, .one .any, .one .any, .one .any, .one .any, .one (.sc (.vec 0 y.1 1)), .one .any, .one .any, .one .any, .one .any, .one .any, .one .any, .one .any, .one .any, .one .any, .one .any, .one .any, .one .any, .one .any, .one .any, .one .any, .one .any, .one .any, .one .any, .one .any, .one .any, .one .any, .one .any, .one .any, .one .any, .one .any, .one .any, .one .any, .one .any, .one .any, .one .any, .one .any, .one .any, .one .any, .one .any, .one .any, .one .any, .one .any, .one .any, .one .any, .one .any, .one .any, .one .any, .one .any, .one .any, .one .any, .one .any, .one .any, .one .any, .one .any, .one .any, .one .any, .one .any, .one .any, .one .any, .one .any, .one .any, .one .any, .one .any, .one .any, .one .any, .one .any, .one .any, .one .any, .one .any, .one .any, .one .any, .one .any, .one .any, .one .any, .one .any], mem := [.live { segs := [.xs (.int .i64) y.2.1 y.2.2.1], own := .own }] }
theorem p_ref15_join_l9_e (N : Nat) : EntryOk p_ref15_join_E p_ref15_join_H N (loopE p_ref15_join_l9_S N (p_ref15_join_l9_F N) p_ref15_join_l9_go) (.loop (theLoop 9 p_ref15_join_c)) :=
  loopOk (body := p_ref15_join_c) (k := 9) (c := theLoop 9 p_ref15_join_c) (OkAll.nil) (by kernel_rfl) (fun x => by kernel_rfl) (fun β x kn ke => by kernel_rfl)
noncomputable def p_ref15_join_l9v1_S : Shape where
  h := { tmps := [.any, .any, .any, .any, .any, .sc (.int .i64), .sc (.vec 0 none 1), .sc (.sl 1 none none none 1), .sc (.int .i64), .sc (.int .i64), .sc (.vec 2 none 1), .any, .any, .any, .any, .any, .any, .any, .any, .any, .any, .any, .any, .any, .any, .any, .any, .any, .any, .any, .any, .any, .any, .any, .any, .any, .any, .any, .any, .any, .any, .sc (.int .i64), .sc (.int .i64), .any, .any, .any, .any, .any, .any, .any, .any, .any, .any, .any, .any, .any, .any, .any, .any, .any, .any, .any, .any, .any, .any, .any, .any, .any, .any, .any, .any, .any, .any, .any, .any, .any, .any, .any, .any, .any, .any], mem := [.live [.xs (.int .i64) none] (.own), .live [.xs (.int .i64) none] (.ro), .live [.xs (.int .i64) none] (.own)] }
  ks := [.int, .nat, .nat, .nat, .nat, .int, .int, .nat, .int, .int, .nat, .xs, .nat, .xs, .nat, .xs]
  st := fun x => { tmps := [.one .any, .one .any, .one .any, .one .any, .one .any, .one (.sc (.int .i64 x.1)), .one (.sc (.vec 0 x.2.1 1)), .one (.sc (.sl 1 x.2.2.1 x.2.2.2.1 x.2.2.2.2.1 1)), .one (.sc (.int .i64 x.2.2.2.2.2.1)), .one (.sc (.int .i64 x.2.2.2.2.2.2.1)), .one (.sc (.vec 2 x.2.2.2.2.2.2.2.1 1)), .one .any, .one .any, .one .any, .one .any, .one .any, .one .any, .one .any, .one .any, .one .any, .one .any, .one .any, .one .any, .one .any, .one .any, .one .any, .one .any, .one .any, .one .any, .one .any, .one .any, .one .any, .one .any, .one .any, .one .any, .one .any, .one .any, .one .any, .one .any, .one .any, .one .any, .one (.sc (.int .i64 x.2.2.2.2.2.2.2.2.1)), .one (.sc (.int .i64 x.2.2.2.2.2.2.2.2.2.1)), .one .any, .one .any, .one .any, .one .any, .one .any, .one .any, .one .any, .one .any, .one .any, .one .any, .one .any, .one .any, .one .any, .one .any, .one .any, .one .any, .one .any, .one .any, .one .any, .one .any, .one .any, .one .any, .one .any, .one .any, .one .any, .one .any, .one .any, .one .any, .one .any, .one .any, .one .any, .one .any, .one .any, .one .any, .one .any, .one .any, .one .any, .one .any], mem := [.live { segs := [.xs (.int .i64) x.2.2.2.2.2.2.2.2.2.2.1 x.2.2.2.2.2.2.2.2.2.2.2.1], own := .own }, .live { segs := [.xs (.int .i64) x.2.2.2.2.2.2.2.2.2.2.2.2.1 x.2.2.2.2.2.2.2.2.2.2.2.2.2.1], own := .ro }, .live { segs := [.xs (.int .i64) x.2.2.2.2.2.2.2.2.2.2.2.2.2.2.1 x.2.2.2.2.2.2.2.2.2.2.2.2.2.2.2.1], own := .own }] }
noncomputable def p_ref15_join_l9v1_F (N : Nat) (β : Type) (x : (Int × Nat × Nat × Nat × Nat × Int × Int × Nat × Int × Int × Nat × List Int × Nat × List Int × Nat × List Int × Unit)) (kn : (Int × Nat × Nat × Nat × Nat × Int × Int × Nat × Int × Int × Nat × List Int × Nat × List Int × Nat × List Int × Unit) → Option β) (ke : ((Nat × Nat × List Int × Unit)) → Option β) : Option β :=
  if (x.2.2.2.2.2.2.2.2.2.1 < x.2.2.2.2.2.2.2.2.1) then
    if 0 ≤ x.2.2.2.2.2.2.2.2.2.1 then (
    if x.2.2.2.2.2.2.2.2.2.1 < ((x.2.1 : Nat) : Int) then (
    if (x.2.2.2.2.2.2.2.2.2.1.toNat) < x.2.2.2.2.2.2.2.2.2.2.1 then (
    if 0 ≤ x.2.2.2.2.2.2.2.2.2.1 then (
    if x.2.2.2.2.2.2.2.2.2.1 < ((x.2.2.2.1 : Nat) : Int) then (
    if (addN x.2.2.1 (x.2.2.2.2.2.2.2.2.2.1.toNat)) < x.2.2.2.2.2.2.2.2.2.2.2.2.1 then (
    if 0 ≤ x.2.2.2.2.2.2.2.2.2.1 then (
    if x.2.2.2.2.2.2.2.2.2.1 < ((x.2.2.2.2.2.2.2.1 : Nat) : Int) then (
    if (x.2.2.2.2.2.2.2.2.2.1.toNat) < x.2.2.2.2.2.2.2.2.2.2.2.2.2.2.1 then (
    if 0 ≤ x.2.2.2.2.2.2.2.2.2.1 then (
    if x.2.2.2.2.2.2.2.2.2.1 < ((x.2.1 : Nat) : Int) then (
    if (x.2.2.2.2.2.2.2.2.2.1.toNat) < x.2.2.2.2.2.2.2.2.2.2.1 then (
    if 0 ≤ x.2.2.2.2.2.2.2.2.2.1 then (
    if x.2.2.2.2.2.2.2.2.2.1 < ((x.2.2.2.1 : Nat) : Int) then (
    if (addN x.2.2.1 (x.2.2.2.2.2.2.2.2.2.1.toNat)) < x.2.2.2.2.2.2.2.2.2.2.2.2.1 then (
    (g_ref15_mod ((IntKind.i64.wrap ((List.getD x.2.2.2.2.2.2.2.2.2.2.2.1 (x.2.2.2.2.2.2.2.2.2.1.toNat) 0) - (List.getD x.2.2.2.2.2.2.2.2.2.2.2.2.2.1 (addN x.2.2.1 (x.2.2.2.2.2.2.2.2.2.1.toNat)) 0))), ())).bind fun r7 => (
    if 0 ≤ (IntKind.i64.wrap (x.1 + x.2.2.2.2.2.2.2.2.2.1)) then (
    if (IntKind.i64.wrap (x.1 + x.2.2.2.2.2.2.2.2.2.1)) < ((x.2.2.2.2.2.2.2.1 : Nat) : Int) then (
    if ((IntKind.i64.wrap (x.1 + x.2.2.2.2.2.2.2.2.2.1)).toNat) < x.2.2.2.2.2.2.2.2.2.2.2.2.2.2.1 then (
    kn (x.1, x.2.1, x.2.2.1, x.2.2.2.1, x.2.2.2.2.1, x.2.2.2.2.2.1, x.2.2.2.2.2.2.1, x.2.2.2.2.2.2.2.1, x.2.2.2.2.2.2.2.2.1, (IntKind.i64.wrap (x.2.2.2.2.2.2.2.2.2.1 + (1:Int))), x.2.2.2.2.2.2.2.2.2.2.1, x.2.2.2.2.2.2.2.2.2.2.2.1, x.2.2.2.2.2.2.2.2.2.2.2.2.1, x.2.2.2.2.2.2.2.2.2.2.2.2.2.1, x.2.2.2.2.2.2.2.2.2.2.2.2.2.2.1, (List.set (List.set x.2.2.2.2.2.2.2.2.2.2.2.2.2.2.2.1 (x.2.2.2.2.2.2.2.2.2.1.toNat) (Int.tmod (IntKind.i64.wrap ((Int.tmod (IntKind.i64.wrap ((List.getD x.2.2.2.2.2.2.2.2.2.2.2.1 (x.2.2.2.2.2.2.2.2.2.1.toNat) 0) + (List.getD x.2.2.2.2.2.2.2.2.2.2.2.2.2.1 (addN x.2.2.1 (x.2.2.2.2.2.2.2.2.2.1.toNat)) 0))) (8380417:Int)) * x.2.2.2.2.2.1)) (8380417:Int))) ((IntKind.i64.wrap (x.1 + x.2.2.2.2.2.2.2.2.2.1)).toNat) (Int.tmod (IntKind.i64.wrap (r7 * x.2.2.2.2.2.2.1)) (8380417:Int))), ())) else none) else none) else none)) else none) else none) else none) else none) else none) else none) else none) else none) else none) else none) else none) else none) else none) else none) else none
  else
    ke (x.2.2.2.2.2.2.2.1, x.2.2.2.2.2.2.2.2.2.2.2.2.2.2.1, x.2.2.2.2.2.2.2.2.2.2.2.2.2.2.2.1, ())
noncomputable def p_ref15_join_l9v1_go : Go' ((Nat × Nat × List Int × Unit)) := fun y K => K (.exit 0) { tmps := [.one .any, .one .any, .one .any, .one .any, .one .any, .one .any, .one .any, .one .any, .one .any, .one .any, .one (.sc (.vec 0 y.1 1)), .one .any, .one .any, .one .any, .one .any, .one .any, .one .any, .one .any, .one .any, .one .any, .one .any, .one .any, .one .any, .one .any, .one .any, .one .any, .one .any, .one .any, .one .any, .one .any, .one .any, .one .any, .one .any, .one .any, .one .any, .one .any, .one .any, .one .any, .one .any, .one .any, .one .any, .one .any, .one .any, .one .any, .one .any, .one .any, .one .any, .one .any, .one .any, .one .any, .one .any, .one .any, .one .any, .one .any, .one .any, .one .any, .one .any, .one .any, .one .any, .one .any, .one .any, .one .any, .one .any, .one .any, .one .any, .one .any, .one .any, .one .any, .one .any, .one .any, .one .any, .one .any, .one .any, .one .any, .one .any, .one .any, .one .any, .one .any, .one .any, .one .any, .one .any], mem := [.live { segs := [.xs (.int .i64) y.2.1 y.2.2.1], own := .own }] }
theorem p_ref15_join_l9v1_e (N : Nat) : EntryOk p_ref15_join_E p_ref15_join_H N (loopE p_ref15_join_l9v1_S N (p_ref15_join_l9v1_F N) p_ref15_join_l9v1_go) (.loop (theLoop 9 p_ref15_join_c)) :=
  loopOk (body := p_ref15_join_c) (k := 9) (c := theLoop 9 p_ref15_join_c) (OkAll.nil) (by kernel_rfl) (fun x => by kernel_rfl) (fun β x kn ke => by kernel_rfl)
noncomputable def p_ref15_join_l9v2_S : Shape where
  h := { tmps := [.any, .any, .any, .any, .any, .sc (.int .i64), .sc (.sl 0 (some 0) none none 1), .sc (.vec 1 none 1), .sc (.int .i64), .sc (.int .i64), .sc (.vec 2 none 1), .any, .any, .any, .any, .any, .any, .any, .any, .any, .any, .any, .any, .any, .any, .any, .any, .any, .any, .any, .any, .any, .any, .any, .any, .any, .any, .any, .any, .any, .any, .sc (.int .i64), .sc (.int .i64), .any, .any, .any, .any, .any, .any, .any, .any, .any, .any, .any, .any, .any, .any, .any, .any, .any, .any, .any, .any, .any, .any, .any, .any, .any, .any, .any, .any, .any, .any, .any, .any, .any, .any, .any, .any, .any, .any], mem := [.live [.xs (.int .i64) none] (.ro), .live [.xs (.int .i64) none] (.own), .live [.xs (.int .i64) none] (.own)] }
  ks := [.int, .nat, .nat, .nat, .int, .int, .nat, .int, .int, .nat, .xs, .nat, .xs, .nat, .xs]
  st := fun x => { tmps := [.one .any, .one .any, .one .any, .one .any, .one .any, .one (.sc (.int .i64 x.1)), .one (.sc (.sl 0 0 x.2.1 x.2.2.1 1)), .one (.sc (.vec 1 x.2.2.2.1 1)), .one (.sc (.int .i64 x.2.2.2.2.1)), .one (.sc (.int .i64 x.2.2.2.2.2.1)), .one (.sc (.vec 2 x.2.2.2.2.2.2.1 1)), .one .any, .one .any, .one .any, .one .any, .one .any, .one .any, .one .any, .one .any, .one .any, .one .any, .one .any, .one .any, .one .any, .one .any, .one .any, .one .any, .one .any, .one .any, .one .any, .one .any, .one .any, .one .any, .one .any, .one .any, .one .any, .one .any, .one .any, .one .any, .one .any, .one .any, .one (.sc (.int .i64 x.2.2.2.2.2.2.2.1)), .one (.sc (.int .i64 x.2.2.2.2.2.2.2.2.1)), .one .any, .one .any, .one .any, .one .any, .one .any, .one .any, .one .any, .one .any, .one .any, .one .any, .one .any, .one .any, .one .any, .one .any, .one .any, .one .any, .one .any, .one .any, .one .any, .one .any, .one .any, .one .any, .one .any, .one .any, .one .any, .one .any, .one .any, .one .any, .one .any, .one .any, .one .any, .one .any, .one .any, .one .any, .one .any, .one .any, .one .any, .one .any], mem := [.live { segs := [.xs (.int .i64) x.2.2.2.2.2.2.2.2.2.1 x.2.2.2.2.2.2.2.2.2.2.1], own := .ro }, .live { segs := [.xs (.int .i64) x.2.2.2.2.2.2.2.2.2.2.2.1 x.2.2.2.2.2.2.2.2.2.2.2.2.1], own := .own }, .live { segs := [.xs (.int .i64) x.2.2.2.2.2.2.2.2.2.2.2.2.2.1 x.2.2.2.2.2.2.2.2.2.2.2.2.2.2.1], own := .own }] }
noncomputable def p_ref15_join_l9v2_F (N : Nat) (β : Type) (x : (Int × Nat × Nat × Nat × Int × Int × Nat × Int × Int × Nat × List Int × Nat × List Int × Nat × List Int × Unit)) (kn : (Int × Nat × Nat × Nat × Int × Int × Nat × Int × Int × Nat × List Int × Nat × List Int × Nat × List Int × Unit) → Option β) (ke : ((Nat × Nat × List Int × Unit)) → Option β) : Option β :=
  if (x.2.2.2.2.2.2.2.2.1 < x.2.2.2.2.2.2.2.1) then
    if 0 ≤ x.2.2.2.2.2.2.2.2.1 then (
    if x.2.2.2.2.2.2.2.2.1 < ((x.2.1 : Nat) : Int) then (
    if (x.2.2.2.2.2.2.2.2.1.toNat) < x.2.2.2.2.2.2.2.2.2.1 then (
    if 0 ≤ x.2.2.2.2.2.2.2.2.1 then (
    if x.2.2.2.2.2.2.2.2.1 < ((x.2.2.2.1 : Nat) : Int) then (
    if (x.2.2.2.2.2.2.2.2.1.toNat) < x.2.2.2.2.2.2.2.2.2.2.2.1 then (
    if 0 ≤ x.2.2.2.2.2.2.2.2.1 then (
    if x.2.2.2.2.2.2.2.2.1 < ((x.2.2.2.2.2.2.1 : Nat) : Int) then (
    if (x.2.2.2.2.2.2.2.2.1.toNat) < x.2.2.2.2.2.2.2.2.2.2.2.2.2.1 then (
    if 0 ≤ x.2.2.2.2.2.2.2.2.1 then (
    if x.2.2.2.2.2.2.2.2.1 < ((x.2.1 : Nat) : Int) then (
    if (x.2.2.2.2.2.2.2.2.1.toNat) < x.2.2.2.2.2.2.2.2.2.1 then (
    if 0 ≤ x.2.2.2.2.2.2.2.2.1 then (
    if x.2.2.2.2.2.2.2.2.1 < ((x.2.2.2.1 : Nat) : Int) then (
    if (x.2.2.2.2.2.2.2.2.1.toNat) < x.2.2.2.2.2.2.2.2.2.2.2.1 then (
    (g_ref15_mod ((IntKind.i64.wrap ((List.getD x.2.2.2.2.2.2.2.2.2.2.1 (x.2.2.2.2.2.2.2.2.1.toNat) 0) - (List.getD x.2.2.2.2.2.2.2.2.2.2.2.2.1 (x.2.2.2.2.2.2.2.2.1.toNat) 0))), ())).bind fun r11 => (
    if 0 ≤ (IntKind.i64.wrap (x.1 + x.2.2.2.2.2.2.2.2.1)) then (
    if (IntKind.i64.wrap (x.1 + x.2.2.2.2.2.2.2.2.1)) < ((x.2.2.2.2.2.2.1 : Nat) : Int) then (
    if ((IntKind.i64.wrap (x.1 + x.2.2.2.2.2.2.2.2.1)).toNat) < x.2.2.2.2.2.2.2.2.2.2.2.2.2.1 then (
    kn (x.1, x.2.1, x.2.2.1, x.2.2.2.1, x.2.2.2.2.1, x.2.2.2.2.2.1, x.2.2.2.2.2.2.1, x.2.2.2.2.2.2.2.1, (IntKind.i64.wrap (x.2.2.2.2.2.2.2.2.1 + (1:Int))), x.2.2.2.2.2.2.2.2.2.1, x.2.2.2.2.2.2.2.2.2.2.1, x.2.2.2.2.2.2.2.2.2.2.2.1, x.2.2.2.2.2.2.2.2.2.2.2.2.1, x.2.2.2.2.2.2.2.2.2.2.2.2.2.1, (List.set (List.set x.2.2.2.2.2.2.2.2.2.2.2.2.2.2.1 (x.2.2.2.2.2.2.2.2.1.toNat) (Int.tmod (IntKind.i64.wrap ((Int.tmod (IntKind.i64.wrap ((List.getD x.2.2.2.2.2.2.2.2.2.2.1 (x.2.2.2.2.2.2.2.2.1.toNat) 0) + (List.getD x.2.2.2.2.2.2.2.2.2.2.2.2.1 (x.2.2.2.2.2.2.2.2.1.toNat) 0))) (8380417:Int)) * x.2.2.2.2.1)) (8380417:Int))) ((IntKind.i64.wrap (x.1 + x.2.2.2.2.2.2.2.2.1)).toNat) (Int.tmod (IntKind.i64.wrap (r11 * x.2.2.2.2.2.1)) (8380417:Int))), ())) else none) else none) else none)) else none) else none) else none) else none) else none) else none) else none) else none) else none) else none) else none) else none) else none) else none) else none
  else
    ke (x.2.2.2.2.2.2.1, x.2.2.2.2.2.2.2.2.2.2.2.2.2.1, x.2.2.2.2.2.2.2.2.2.2.2.2.2.2.1, ())
noncomputable def p_ref15_join_l9v2_go : Go' ((Nat × Nat × List Int × Unit)) := fun y K => K (.exit 0) { tmps := [.one .any, .one .any, .one .any, .one .any, .one .any, .one .any, .one .any, .one .any, .one .any, .one .any, .one (.sc (.vec 0 y.1 1)), .one .any, .one .any, .one .any, .one .any, .one .any, .one .any, .one .any, .one .any, .one .any, .one .any, .one .any, .one .any, .one .any, .one .any, .one .any, .one .any, .one .any, .one .any, .one .any, .one .any, .one .any, .one .any, .one .any, .one .any, .one .any, .one .any, .one .any, .one .any, .one .any, .one .any, .one .any, .one .any, .one .any, .one .any, .one .any, .one .any, .one .any, .one .any, .one .any, .one .any, .one .any, .one .any, .one .any, .one .any, .one .any, .one .any, .one .any, .one .any, .one .any, .one .any, .one .any, .one .any, .one .any, .one .any, .one .any, .one .any, .one .any, .one .any, .one .any, .one .any, .one .any, .one .any, .one .any, .one .any, .one .any, .one .any, .one .any, .one .any, .one .any, .one .any], mem := [.live { segs := [.xs (.int .i64) y.2.1 y.2.2.1], own := .own }] }
theorem p_ref15_join_l9v2_e (N : Nat) : EntryOk p_ref15_join_E p_ref15_join_H N (loopE p_ref15_join_l9v2_S N (p_ref15_join_l9v2_F N) p_ref15_join_l9v2_go) (.loop (theLoop 9 p_ref15_join_c)) :=
  loopOk (body := p_ref15_join_c) (k := 9) (c := theLoop 9 p_ref15_join_c) (OkAll.nil) (by kernel_rfl) (fun x => by kernel_rfl) (fun β x kn ke => by kernel_rfl)
noncomputable def p_ref15_join_l9v3_S : Shape where
  h := { tmps := [.any, .any, .any, .any, .any, .sc (.int .i64), .sc (.sl 0 (some 0) none none 1), .sc (.sl 0 none none none 1), .sc (.int .i64), .sc (.int .i64), .sc (.vec 1 none 1), .any, .any, .any, .any, .any, .any, .any, .any, .any, .any, .any, .any, .any, .any, .any, .any, .any, .any, .any, .any, .any, .any, .any, .any, .any, .any, .any, .any, .any, .any, .sc (.int .i64), .sc (.int .i64), .any, .any, .any, .any, .any, .any, .any, .any, .any, .any, .any, .any, .any, .any, .any, .any, .any, .any, .any, .any, .any, .any, .any, .any, .any, .any, .any, .any, .any, .any, .any, .any, .any, .any, .any, .any, .any, .any], mem := [.live [.xs (.int .i64) none] (.ro), .live [.xs (.int .i64) none] (.own)] }
  ks := [.int, .nat, .nat, .nat, .nat, .nat, .int, .int, .nat, .int, .int, .nat, .xs, .nat, .xs]
  st := fun x => { tmps := [.one .any, .one .any, .one .any, .one .any, .one .any, .one (.sc (.int .i64 x.1)), .one (.sc (.sl 0 0 x.2.1 x.2.2.1 1)), .one (.sc (.sl 0 x.2.2.2.1 x.2.2.2.2.1 x.2.2.2.2.2.1 1)), .one (.sc (.int .i64 x.2.2.2.2.2.2.1)), .one (.sc (.int .i64 x.2.2.2.2.2.2.2.1)), .one (.sc (.vec 1 x.2.2.2.2.2.2.2.2.1 1)), .one .any, .one .any, .one .any, .one .any, .one .any, .one .any, .one .any, .one .any, .one .any, .one .any, .one .any, .one .any, .one .any, .one .any, .one .any, .one .any, .one .any, .one .any, .one .any, .one .any, .one .any, .one .any, .one .any, .one .any, .one .any, .one .any, .one .any, .one .any, .one .any, .one .any, .one (.sc (.int .i64 x.2.2.2.2.2.2.2.2.2.1)), .one (.sc (.int .i64 x.2.2.2.2.2.2.2.2.2.2.1)), .one .any, .one .any, .one .any, .one .any, .one .any, .one .any, .one .any, .one .any, .one .any, .one .any, .one .any, .one .any, .one .any, .one .any, .one .any, .one .any, .one .any, .one .any, .one .any, .one .any, .one .any, .one .any, .one .any, .one .any, .one .any, .one .any, .one .any, .one .any, .one .any, .one .any, .one .any, .one .any, .one .any, .one .any, .one .any, .one .any, .one .any, .one .any], mem := [.live { segs := [.xs (.int .i64) x.2.2.2.2.2.2.2.2.2.2.2.1 x.2.2.2.2.2.2.2.2.2.2.2.2.1], own := .ro }, .live { segs := [.xs (.int .i64) x.2.2.2.2.2.2.2.2.2.2.2.2.2.1 x.2.2.2.2.2.2.2.2.2.2.2.2.2.2.1], own := .own }] }
noncomputable def p_ref15_join_l9v3_F (N : Nat) (β : Type) (x : (Int × Nat × Nat × Nat × Nat × Nat × Int × Int × Nat × Int × Int × Nat × List Int × Nat × List Int × Unit)) (kn : (Int × Nat × Nat × Nat × Nat × Nat × Int × Int × Nat × Int × Int × Nat × List Int × Nat × List Int × Unit) → Option β) (ke : ((Nat × Nat × List Int × Unit)) → Option β) : Option β :=
  if (x.2.2.2.2.2.2.2.2.2.2.1 < x.2.2.2.2.2.2.2.2.2.1) then
    if 0 ≤ x.2.2.2.2.2.2.2.2.2.2.1 then (
    if x.2.2.2.2.2.2.2.2.2.2.1 < ((x.2.1 : Nat) : Int) then (
    if (x.2.2.2.2.2.2.2.2.2.2.1.toNat) < x.2.2.2.2.2.2.2.2.2.2.2.1 then (
    if 0 ≤ x.2.2.2.2.2.2.2.2.2.2.1 then (
    if x.2.2.2.2.2.2.2.2.2.2.1 < ((x.2.2.2.2.1 : Nat) : Int) then (
    if (addN x.2.2.2.1 (x.2.2.2.2.2.2.2.2.2.2.1.toNat)) < x.2.2.2.2.2.2.2.2.2.2.2.1 then (
    if 0 ≤ x.2.2.2.2.2.2.2.2.2.2.1 then (
    if x.2.2.2.2.2.2.2.2.2.2.1 < ((x.2.2.2.2.2.2.2.2.1 : Nat) : Int) then (
    if (x.2.2.2.2.2.2.2.2.2.2.1.toNat) < x.2.2.2.2.2.2.2.2.2.2.2.2.2.1 then (
    if 0 ≤ x.2.2.2.2.2.2.2.2.2.2.1 then (
    if x.2.2.2.2.2.2.2.2.2.2.1 < ((x.2.1 : Nat) : Int) then (
    if (x.2.2.2.2.2.2.2.2.2.2.1.toNat) < x.2.2.2.2.2.2.2.2.2.2.2.1 then (
    if 0 ≤ x.2.2.2.2.2.2.2.2.2.2.1 then (
    if x.2.2.2.2.2.2.2.2.2.2.1 < ((x.2.2.2.2.1 : Nat) : Int) then (
    if (addN x.2.2.2.1 (x.2.2.2.2.2.2.2.2.2.2.1.toNat)) < x.2.2.2.2.2.2.2.2.2.2.2.1 then (
    (g_ref15_mod ((IntKind.i64.wrap ((List.getD x.2.2.2.2.2.2.2.2.2.2.2.2.1 (x.2.2.2.2.2.2.2.2.2.2.1.toNat) 0) - (List.getD x.2.2.2.2.2.2.2.2.2.2.2.2.1 (addN x.2.2.2.1 (x.2.2.2.2.2.2.2.2.2.2.1.toNat)) 0))), ())).bind fun r14 => (
    if 0 ≤ (IntKind.i64.wrap (x.1 + x.2.2.2.2.2.2.2.2.2.2.1)) then (
    if (IntKind.i64.wrap (x.1 + x.2.2.2.2.2.2.2.2.2.2.1)) < ((x.2.2.2.2.2.2.2.2.1 : Nat) : Int) then (
    if ((IntKind.i64.wrap (x.1 + x.2.2.2.2.2.2.2.2.2.2.1)).toNat) < x.2.2.2.2.2.2.2.2.2.2.2.2.2.1 then (
    kn (x.1, x.2.1, x.2.2.1, x.2.2.2.1, x.2.2.2.2.1, x.2.2.2.2.2.1, x.2.2.2.2.2.2.1, x.2.2.2.2.2.2.2.1, x.2.2.2.2.2.2.2.2.1, x.2.2.2.2.2.2.2.2.2.1, (IntKind.i64.wrap (x.2.2.2.2.2.2.2.2.2.2.1 + (1:Int))), x.2.2.2.2.2.2.2.2.2.2.2.1, x.2.2.2.2.2.2.2.2.2.2.2.2.1, x.2.2.2.2.2.2.2.2.2.2.2.2.2.1, (List.set (List.set x.2.2.2.2.2.2.2.2.2.2.2.2.2.2.1 (x.2.2.2.2.2.2.2.2.2.2.1.toNat) (Int.tmod (IntKind.i64.wrap ((Int.tmod (IntKind.i64.wrap ((List.getD x.2.2.2.2.2.2.2.2.2.2.2.2.1 (x.2.2.2.2.2.2.2.2.2.2.1.toNat) 0) + (List.getD x.2.2.2.2.2.2.2.2.2.2.2.2.1 (addN x.2.2.2.1 (x.2.2.2.2.2.2.2.2.2.2.1.toNat)) 0))) (8380417:Int)) * x.2.2.2.2.2.2.1)) (8380417:Int))) ((IntKind.i64.wrap (x.1 + x.2.2.2.2.2.2.2.2.2.2.1)).toNat) (Int.tmod (IntKind.i64.wrap (r14 * x.2.2.2.2.2.2.2.1)) (8380417:Int))), ())) else none) else none) else none)) else none) else none) else none) else none) else none) else none) else none) else none) else none) else none) else none) else none) else none) else none) else none
  else
    ke (x.2.2.2.2.2.2.2.2.1, x.2.2.2.2.2.2.2.2.2.2.2.2.2.1, x.2.2.2.2.2.2.2.2.2.2.2.2.2.2.1, ())
noncomputable def p_ref15_join_l9v3_go : Go' ((Nat × Nat × List Int × Unit)) := fun y K => K (.exit 0) { tmps := [.one .any, .one .any, .one .any, .one .any, .one .any, .one .any, .one .any, .one .any, .one .any, .one .any, .one (.sc (.vec 0 y.1 1)), .one .any, .one .any, .one .any, .one .any, .one .any, .one .any, .one .any, .one .any, .one .any, .one .any, .one .any, .one .any, .one .any, .one .any, .one .any, .one .any, .one .any, .one .any, .one .any, .one .any, .one .any, .one .any, .one .any, .one .any, .one .any, .one .any, .one .any, .one .any, .one .any, .one .any, .one .any, .one .any, .one .any, .one .any, .one .any, .one .any, .one .any, .one .any, .one .any, .one .any, .one .any, .one .any, .one .any, .one .any, .one .any, .one .any, .one .any, .one .any, .one .any, .one .any, .one .any, .one .any, .one .any, .one .any, .one .any, .one .any, .one .any, .one .any, .one .any, .one .any, .one .any, .one .any, .one .any, .one .any, .one .any, .one .any, .one .any, .one .any, .one .any, .one .any], mem := [.live { segs := [.xs (.int .i64) y.2.1 y.2.2.1], own := .own }] }
theorem p_ref15_join_l9v3_e (N : Nat) : EntryOk p_ref15_join_E p_ref15_join_H N (loopE p_ref15_join_l9v3_S N (p_ref15_join_l9v3_F N) p_ref15_join_l9v3_go) (.loop (theLoop 9 p_ref15_join_c)) :=
  loopOk (body := p_ref15_join_c) (k := 9) (c := theLoop 9 p_ref15_join_c) (OkAll.nil) (by kernel_rfl) (fun x => by kernel_rfl) (fun β x kn ke => by kernel_rfl)
noncomputable def p_ref15_join_l9v3_L (N : Nat) : LT := upd (LT.nil) 9 (orE p_ref15_join_l9_S (loopE p_ref15_join_l9_S N (p_ref15_join_l9_F N) p_ref15_join_l9_go) (orE p_ref15_join_l9v1_S (loopE p_ref15_join_l9v1_S N (p_ref15_join_l9v1_F N) p_ref15_join_l9v1_go) (orE p_ref15_join_l9v2_S (loopE p_ref15_join_l9v2_S N (p_ref15_join_l9v2_F N) p_ref15_join_l9v2_go) (loopE p_ref15_join_l9v3_S N (p_ref15_join_l9v3_F N) p_ref15_join_l9v3_go))))
theorem p_ref15_join_l9v3_ok (N : Nat) : OkAll p_ref15_join_E p_ref15_join_H N (p_ref15_join_l9v3_L N) (subs p_ref15_join_c) :=
  addLoops (OkAll.nil) (by kernel_rfl) (((p_ref15_join_l9_e N).or (((p_ref15_join_l9v1_e N).or (((p_ref15_join_l9v2_e N).or (p_ref15_join_l9v3_e N)))))))
abbrev p_ref15_join_ks : List Kd := [.sl (.int .i64), .int .i64]
abbrev p_ref15_join_rs : List Kd := [.sl (.int .i64)]
noncomputable def p_ref15_join (N : Nat) (x : List Int × Int × Unit) : Option (List Int) :=
  if ((IntKind.i64.wrap (Int.tdiv (((List.length x.1) : Nat) : Int) (2:Int))) = (0:Int)) then none else (
  if 0 ≤ (IntKind.i64.wrap (Int.tdiv (((List.length x.1) : Nat) : Int) (2:Int))) then (
  if (IntKind.i64.wrap (Int.tdiv (((List.length x.1) : Nat) : Int) (2:Int))) ≤ (((List.length x.1) : Nat) : Int) then (
  if ((IntKind.i64.wrap (Int.tdiv (((List.length x.1) : Nat) : Int) (2:Int))).toNat) < 2 then
    if 0 ≤ (IntKind.i64.wrap (Int.tdiv (((List.length x.1) : Nat) : Int) (2:Int))) then (
    if (IntKind.i64.wrap (Int.tdiv (((List.length x.1) : Nat) : Int) (2:Int))) ≤ (((List.length x.1) : Nat) : Int) then (
    if (subN (List.length x.1) ((IntKind.i64.wrap (Int.tdiv (((List.length x.1) : Nat) : Int) (2:Int))).toNat)) < 2 then
      (g_ref15_power ((1753:Int), (IntKind.i64.wrap ((512:Int) - (IntKind.i64.wrap (Int.tdiv x.2.1 (2:Int))))), ())).bind fun r13 => (
      if 0 ≤ (IntKind.i64.wrap ((2:Int) * (IntKind.i64.wrap (Int.tdiv (((List.length x.1) : Nat) : Int) (2:Int))))) then (
      if (IntKind.i64.wrap ((2:Int) * (IntKind.i64.wrap (Int.tdiv (((List.length x.1) : Nat) : Int) (2:Int))))) = (IntKind.i64.wrap ((2:Int) * (IntKind.i64.wrap (Int.tdiv (((List.length x.1) : Nat) : Int) (2:Int))))) then (
      if (IntKind.i64.wrap ((2:Int) * (IntKind.i64.wrap (Int.tdiv (((List.length x.1) : Nat) : Int) (2:Int))))) * 8 ≤ 281474976710656 then (
      iter (p_ref15_join_l9v3_F N) N ((IntKind.i64.wrap (Int.tdiv (((List.length x.1) : Nat) : Int) (2:Int))), ((IntKind.i64.wrap (Int.tdiv (((List.length x.1) : Nat) : Int) (2:Int))).toNat), (List.length x.1), ((IntKind.i64.wrap (Int.tdiv (((List.length x.1) : Nat) : Int) (2:Int))).toNat), (subN (List.length x.1) ((IntKind.i64.wrap (Int.tdiv (((List.length x.1) : Nat) : Int) (2:Int))).toNat)), (subN (List.length x.1) ((IntKind.i64.wrap (Int.tdiv (((List.length x.1) : Nat) : Int) (2:Int))).toNat)), (4190209:Int), (Int.tmod (IntKind.i64.wrap (r13 * (4190209:Int))) (8380417:Int)), ((IntKind.i64.wrap ((2:Int) * (IntKind.i64.wrap (Int.tdiv (((List.length x.1) : Nat) : Int) (2:Int))))).toNat), (IntKind.i64.wrap (Int.tdiv (((List.length x.1) : Nat) : Int) (2:Int))), (0:Int), (List.length x.1), x.1, ((IntKind.i64.wrap ((2:Int) * (IntKind.i64.wrap (Int.tdiv (((List.length x.1) : Nat) : Int) (2:Int))))).toNat), (List.replicate ((IntKind.i64.wrap ((2:Int) * (IntKind.i64.wrap (Int.tdiv (((List.length x.1) : Nat) : Int) (2:Int))))).toNat) 0), ()) fun y15 => (
      some y15.2.2.1)) else none) else none) else none)
    else
      (g_ref15_join ((List.take (subN (List.length x.1) ((IntKind.i64.wrap (Int.tdiv (((List.length x.1) : Nat) : Int) (2:Int))).toNat)) (List.drop ((IntKind.i64.wrap (Int.tdiv (((List.length x.1) : Nat) : Int) (2:Int))).toNat) x.1)), (IntKind.i64.wrap ((IntKind.i64.wrap (Int.tdiv x.2.1 (2:Int))) + (256:Int))), ())).bind fun r9 => (
      (g_ref15_power ((1753:Int), (IntKind.i64.wrap ((512:Int) - (IntKind.i64.wrap (Int.tdiv x.2.1 (2:Int))))), ())).bind fun r10 => (
      if 0 ≤ (IntKind.i64.wrap ((2:Int) * (IntKind.i64.wrap (Int.tdiv (((List.length x.1) : Nat) : Int) (2:Int))))) then (
      if (IntKind.i64.wrap ((2:Int) * (IntKind.i64.wrap (Int.tdiv (((List.length x.1) : Nat) : Int) (2:Int))))) = (IntKind.i64.wrap ((2:Int) * (IntKind.i64.wrap (Int.tdiv (((List.length x.1) : Nat) : Int) (2:Int))))) then (
      if (IntKind.i64.wrap ((2:Int) * (IntKind.i64.wrap (Int.tdiv (((List.length x.1) : Nat) : Int) (2:Int))))) * 8 ≤ 281474976710656 then (
      iter (p_ref15_join_l9v2_F N) N ((IntKind.i64.wrap (Int.tdiv (((List.length x.1) : Nat) : Int) (2:Int))), ((IntKind.i64.wrap (Int.tdiv (((List.length x.1) : Nat) : Int) (2:Int))).toNat), (List.length x.1), (List.length r9), (4190209:Int), (Int.tmod (IntKind.i64.wrap (r10 * (4190209:Int))) (8380417:Int)), ((IntKind.i64.wrap ((2:Int) * (IntKind.i64.wrap (Int.tdiv (((List.length x.1) : Nat) : Int) (2:Int))))).toNat), (IntKind.i64.wrap (Int.tdiv (((List.length x.1) : Nat) : Int) (2:Int))), (0:Int), (List.length x.1), x.1, (List.length r9), r9, ((IntKind.i64.wrap ((2:Int) * (IntKind.i64.wrap (Int.tdiv (((List.length x.1) : Nat) : Int) (2:Int))))).toNat), (List.replicate ((IntKind.i64.wrap ((2:Int) * (IntKind.i64.wrap (Int.tdiv (((List.length x.1) : Nat) : Int) (2:Int))))).toNat) 0), ()) fun y12 => (
      some y12.2.2.1)) else none) else none) else none))) else none) else none
  else
    (g_ref15_join ((List.take ((IntKind.i64.wrap (Int.tdiv (((List.length x.1) : Nat) : Int) (2:Int))).toNat) (List.drop 0 x.1)), (IntKind.i64.wrap (Int.tdiv x.2.1 (2:Int))), ())).bind fun r1 => (
    if 0 ≤ (IntKind.i64.wrap (Int.tdiv (((List.length x.1) : Nat) : Int) (2:Int))) then (
    if (IntKind.i64.wrap (Int.tdiv (((List.length x.1) : Nat) : Int) (2:Int))) ≤ (((List.length x.1) : Nat) : Int) then (
    if (subN (List.length x.1) ((IntKind.i64.wrap (Int.tdiv (((List.length x.1) : Nat) : Int) (2:Int))).toNat)) < 2 then
      (g_ref15_power ((1753:Int), (IntKind.i64.wrap ((512:Int) - (IntKind.i64.wrap (Int.tdiv x.2.1 (2:Int))))), ())).bind fun r6 => (
      if 0 ≤ (IntKind.i64.wrap ((2:Int) * (IntKind.i64.wrap (Int.tdiv (((List.length x.1) : Nat) : Int) (2:Int))))) then (
      if (IntKind.i64.wrap ((2:Int) * (IntKind.i64.wrap (Int.tdiv (((List.length x.1) : Nat) : Int) (2:Int))))) = (IntKind.i64.wrap ((2:Int) * (IntKind.i64.wrap (Int.tdiv (((List.length x.1) : Nat) : Int) (2:Int))))) then (
      if (IntKind.i64.wrap ((2:Int) * (IntKind.i64.wrap (Int.tdiv (((List.length x.1) : Nat) : Int) (2:Int))))) * 8 ≤ 281474976710656 then (
      iter (p_ref15_join_l9v1_F N) N ((IntKind.i64.wrap (Int.tdiv (((List.length x.1) : Nat) : Int) (2:Int))), (List.length r1), ((IntKind.i64.wrap (Int.tdiv (((List.length x.1) : Nat) : Int) (2:Int))).toNat), (subN (List.length x.1) ((IntKind.i64.wrap (Int.tdiv (((List.length x.1) : Nat) : Int) (2:Int))).toNat)), (subN (List.length x.1) ((IntKind.i64.wrap (Int.tdiv (((List.length x.1) : Nat) : Int) (2:Int))).toNat)), (4190209:Int), (Int.tmod (IntKind.i64.wrap (r6 * (4190209:Int))) (8380417:Int)), ((IntKind.i64.wrap ((2:Int) * (IntKind.i64.wrap (Int.tdiv (((List.length x.1) : Nat) : Int) (2:Int))))).toNat), (IntKind.i64.wrap (Int.tdiv (((List.length x.1) : Nat) : Int) (2:Int))), (0:Int), (List.length r1), r1, (List.length x.1), x.1, ((IntKind.i64.wrap ((2:Int) * (IntKind.i64.wrap (Int.tdiv (((List.length x.1) : Nat) : Int) (2:Int))))).toNat), (List.replicate ((IntKind.i64.wrap ((2:Int) * (IntKind.i64.wrap (Int.tdiv (((List.length x.1) : Nat) : Int) (2:Int))))).toNat) 0), ()) fun y8 => (
      some y8.2.2.1)) else none) else none) else none)
    else
      (g_ref15_join ((List.take (subN (List.length x.1) ((IntKind.i64.wrap (Int.tdiv (((List.length x.1) : Nat) : Int) (2:Int))).toNat)) (List.drop ((IntKind.i64.wrap (Int.tdiv (((List.length x.1) : Nat) : Int) (2:Int))).toNat) x.1)), (IntKind.i64.wrap ((IntKind.i64.wrap (Int.tdiv x.2.1 (2:Int))) + (256:Int))), ())).bind fun r2 => (
      (g_ref15_power ((1753:Int), (IntKind.i64.wrap ((512:Int) - (IntKind.i64.wrap (Int.tdiv x.2.1 (2:Int))))), ())).bind fun r3 => (
      if 0 ≤ (IntKind.i64.wrap ((2:Int) * (IntKind.i64.wrap (Int.tdiv (((List.length x.1) : Nat) : Int) (2:Int))))) then (
      if (IntKind.i64.wrap ((2:Int) * (IntKind.i64.wrap (Int.tdiv (((List.length x.1) : Nat) : Int) (2:Int))))) = (IntKind.i64.wrap ((2:Int) * (IntKind.i64.wrap (Int.tdiv (((List.length x.1) : Nat) : Int) (2:Int))))) then (
      if (IntKind.i64.wrap ((2:Int) * (IntKind.i64.wrap (Int.tdiv (((List.length x.1) : Nat) : Int) (2:Int))))) * 8 ≤ 281474976710656 then (
      iter (p_ref15_join_l9_F N) N ((IntKind.i64.wrap (Int.tdiv (((List.length x.1) : Nat) : Int) (2:Int))), (List.length r1), (List.length r2), (4190209:Int), (Int.tmod (IntKind.i64.wrap (r3 * (4190209:Int))) (8380417:Int)), ((IntKind.i64.wrap ((2:Int) * (IntKind.i64.wrap (Int.tdiv (((List.length x.1) : Nat) : Int) (2:Int))))).toNat), (IntKind.i64.wrap (Int.tdiv (((List.length x.1) : Nat) : Int) (2:Int))), (0:Int), (List.length r1), r1, (List.length r2), r2, ((IntKind.i64.wrap ((2:Int) * (IntKind.i64.wrap (Int.tdiv (((List.length x.1) : Nat) : Int) (2:Int))))).toNat), (List.replicate ((IntKind.i64.wrap ((2:Int) * (IntKind.i64.wrap (Int.tdiv (((List.length x.1) : Nat) : Int) (2:Int))))).toNat) 0), ()) fun y5 => (
      some y5.2.2.1)) else none) else none) else none))) else none) else none)) else none) else none)
theorem p_ref15_join_eq (N : Nat) (x : Ds [.sl (.int .i64), .int .i64]) : funL p_ref15_join_E p_ref15_join_H (p_ref15_join_l9v3_L N) N Go.Proofs.Try.f65 p_ref15_join_c [.sl (.int .i64), .int .i64] [.sl (.int .i64)] x = p_ref15_join N x := by kernel_rfl
theorem p_ref15_join_Eok (he_ref15_join : SigOk Go.Proofs.Try.prog 65 ⟨[.sl (.int .i64), .int .i64], [.sl (.int .i64)], g_ref15_join⟩) (he_ref15_power : SigOk Go.Proofs.Try.prog 62 ⟨[.int .i64, .int .i64], [.int .i64], g_ref15_power⟩) (he_ref15_mod : SigOk Go.Proofs.Try.prog 66 ⟨[.int .i64], [.int .i64], g_ref15_mod⟩) : p_ref15_join_E.Ok Go.Proofs.Try.prog := AE.ofR_ok (all_cons ty2_ok (all_cons ty63_ok all_nil)) (all_cons ⟨he_ref15_join, enters_ref15_join⟩ (all_cons ⟨he_ref15_power, enters_ref15_power⟩ (all_cons ⟨he_ref15_mod, enters_ref15_mod⟩ all_nil))) (all_cons ⟨rt_ref15_join, enters_ref15_join⟩ all_nil)
theorem p_ref15_join_ok (he_ref15_join : SigOk Go.Proofs.Try.prog 65 ⟨[.sl (.int .i64), .int .i64], [.sl (.int .i64)], g_ref15_join⟩) (he_ref15_power : SigOk Go.Proofs.Try.prog 62 ⟨[.int .i64, .int .i64], [.int .i64], g_ref15_power⟩) (he_ref15_mod : SigOk Go.Proofs.Try.prog 66 ⟨[.int .i64], [.int .i64], g_ref15_mod⟩) {g : Ds [.sl (.int .i64), .int .i64] → Option (Rs [.sl (.int .i64)])} (hg : ∀ x r, g x = some r → ∃ N, p_ref15_join N x = some r) : SigOk Go.Proofs.Try.prog 65 ⟨[.sl (.int .i64), .int .i64], [.sl (.int .i64)], g⟩ :=
  fun_of (E := p_ref15_join_E) (H := p_ref15_join_H) (L := fun N => p_ref15_join_l9v3_L N) (c := p_ref15_join_c) (ks := p_ref15_join_ks) (rs := p_ref15_join_rs) (F := p_ref15_join) (p_ref15_join_Eok he_ref15_join he_ref15_power he_ref15_mod) mix Go.Proofs.Try.func65 (by kernel_rfl) (fun N => p_ref15_join_l9v3_ok N) p_ref15_join_eq hg
end Go.Ax.TryP
/-! ### split -/
set_option linter.unusedVariables false
namespace Go.Ax.TryP
def inQ (a : List Int) : Prop := ∀ z ∈ a, 0 ≤ z ∧ z ≤ 8380416
noncomputable def gsp (K : Nat) : List Int × Int × Unit → Option (List Int) := Spec (ks := [.sl (.int .i64), .int .i64]) (rs := [.sl (.int .i64)]) (fun x => (∃ k, 1 ≤ k ∧ k ≤ K ∧ x.1.length = 2 ^ k) ∧ inQ x.1 ∧ 0 ≤ x.2.1 ∧ x.2.1 ≤ 512) fun x => splitS (Nat.log2 x.1.length) x.1 x.2.1.toNat
theorem inQ_at {a : List Int} (h : inQ a) (i : Nat) : 0 ≤ a.getD i 0 ∧ a.getD i 0 ≤ 8380416 := by
  rw [List.getD_eq_getElem?_getD]
  cases e : a[i]? with
  | none => simp
  | some z => exact h z (List.mem_of_getElem? e)
theorem spL_q (n : Nat) (s : Int) (a : List Int) : inQ (spL n s a) := fun z hz => by
  obtain ⟨i, _, rfl⟩ := List.mem_map.1 hz
  omega
theorem spR_q (n : Nat) (s : Int) (a : List Int) : inQ (spR n s a) := fun z hz => by
  obtain ⟨i, _, rfl⟩ := List.mem_map.1 hz
  omega
theorem wf_i64s {b : List Int} : Kd.wf (.sl (.int .i64)) b ↔ b.length ≤ maxLen ∧ ∀ z ∈ b, -9223372036854775808 ≤ z ∧ z ≤ 9223372036854775807 := by simp [Kd.wf, okInt_i64]
theorem at_gsp {K k : Nat} (hk : 1 ≤ k ∧ k ≤ K) (hk8 : k ≤ 8) {a : List Int} (ha : a.length = 2 ^ k) (hq : inQ a) {e : Nat} (he : e ≤ 512) : gsp K (a, (e : Int), ()) = some (splitS k a e) := by
  have hM : 1000000 ≤ maxLen := by decide
  have h8 : 2 ^ k ≤ 2 ^ 8 := Nat.pow_le_pow_right (by omega) hk8
  have h := Spec_at (ks := [.sl (.int .i64), .int .i64]) (rs := [.sl (.int .i64)]) (x := (a, (e : Int), ())) (Q := fun x => (∃ k, 1 ≤ k ∧ k ≤ K ∧ x.1.length = 2 ^ k) ∧ inQ x.1 ∧ 0 ≤ x.2.1 ∧ x.2.1 ≤ 512) (f := fun x => splitS (Nat.log2 x.1.length) x.1 x.2.1.toNat)
    ⟨(wf_i64s (b := a)).2 ⟨by omega, fun z hz => by have := hq z hz; omega⟩, (okInt_i64 (n := (e : Int))).2 (by omega), trivial⟩ ⟨⟨k, hk.1, hk.2, ha⟩, hq, by show (0 : Int) ≤ e; omega, by show (e : Int) ≤ 512; omega⟩
  unfold gsp
  rw [h]
  show some (splitS (Nat.log2 a.length) a (e : Int).toNat) = _
  rw [ha, Nat.log2_two_pow, Int.toNat_natCast]
theorem at_modn {z : Int} (h : -9223372036854775808 ≤ z ∧ z ≤ 9223372036854775807) : g_ref15_mod (z, ()) = some (z % 8380417) := Spec_at (ks := [.int .i64]) (rs := [.int .i64]) (x := (z, ())) ⟨okInt_i64.2 h, trivial⟩ trivial
theorem at_powern {n : Nat} (h : n ≤ 1000) : g_ref15_power (1753, (n : Int), ()) = some (1753 ^ n % 8380417) :=
  Spec_at (ks := [.int .i64, .int .i64]) (rs := [.int .i64]) (x := ((1753 : Int), (n : Int), ())) ⟨(okInt_i64 (n := (1753 : Int))).2 (by omega), (okInt_i64 (n := (n : Int))).2 (by omega), trivial⟩ ⟨⟨by show (0 : Int) ≤ 1753; omega, by show (1753 : Int) ≤ 8380416; omega⟩, by show (0 : Int) ≤ n; omega, by show (n : Int) ≤ 1000; omega⟩
theorem split_loop (N : Nat) {n : Nat} (hn : n ≤ 128) (hN : n < N) {a : List Int} (ha : a.length = 2 * n) (hq : inQ a) (e : Int) {s : Int} (hs : 0 ≤ s ∧ s ≤ 8380416) [SplitG] {β : Type} (K : (Int × Nat × Nat × Nat × List Int × Nat × List Int × Unit) → Option β) :
    iter (p_ref15_split_l7_F N) N (a.length, e, (n : Int), s, n, n, (n : Int), 0, a.length, a, n, List.replicate n 0, n, List.replicate n 0, ()) K = K (e, n, n, n, spL n s a, n, spR n s a, ()) := by
  refine iter_from (F := p_ref15_split_l7_F N) (s := fun i => (a.length, e, (n : Int), s, n, n, (n : Int), (i : Int), a.length, a, n, part (fun i => (a.getD i 0 + a.getD (n + i) 0 * s % 8380417) % 8380417) i (List.replicate n 0), n, part (fun i => (a.getD i 0 - a.getD (n + i) 0 * s % 8380417) % 8380417) i (List.replicate n 0), ())) (y := (e, n, n, n, spL n s a, n, spR n s a, ())) n ?_ ?_ ?_ N hN
  · rw [part_zero, part_zero]; rfl
  · intro i hi kn
    have h1 := inQ_at hq i
    have h2 := inQ_at hq (n + i)
    have hp0 : 0 ≤ a.getD (n + i) 0 * s := Int.mul_nonneg h2.1 hs.1
    have hp1 : a.getD (n + i) 0 * s ≤ 8380416 * 8380416 := Int.mul_le_mul h2.2 hs.2 hs.1 (by omega)
    have e1 : IntKind.i64.wrap ((n : Int) + (i : Int)) = ((n + i : Nat) : Int) := by rw [wrap_i64 (by omega) (by omega)]; omega
    have e2 : Int.tmod (IntKind.i64.wrap (a.getD (n + i) 0 * s)) 8380417 = a.getD (n + i) 0 * s % 8380417 := by rw [wrap_i64 (by omega) (by omega), tmod_pos hp0]
    unfold p_ref15_split_l7_F
    dsimp only
    rw [e1, Int.toNat_natCast, Int.toNat_natCast, e2]
    generalize hg : a.getD (n + i) 0 * s % 8380417 = g
    have hg0 : 0 ≤ g ∧ g ≤ 8380416 := by omega
    rw [if_pos (by omega), if_pos (by omega), if_pos (by omega), if_pos (by omega), if_pos (by omega), if_pos (by omega), if_pos (by omega), if_pos (by omega), if_pos (by omega), if_pos (by omega), if_pos (by omega), if_pos (by omega), if_pos (by omega),
      wrap_i64 (x := a.getD i 0 - g) (by omega) (by omega), at_modn (by omega), Option.bind_some, if_pos (by omega), if_pos (by omega), if_pos (by omega), wrap_i64 (x := a.getD i 0 + g) (by omega) (by omega), tmod_pos (by omega), wrap_i64 (by omega) (by omega),
      part_set' (by simpa using hi) (by rw [← hg]), part_set' (by simpa using hi) (by rw [← hg])]
    rfl
  · intro kn
    unfold p_ref15_split_l7_F
    dsimp only
    rw [if_neg (by omega), part_all (by simp), part_all (by simp)]
    rfl
end Go.Ax.TryP
/-! ### split: one length more -/
set_option linter.unusedVariables false
namespace Go.Ax.TryP
theorem spL_len (n : Nat) (s : Int) (a : List Int) : (spL n s a).length = n := by simp [spL]
theorem spR_len (n : Nat) (s : Int) (a : List Int) : (spR n s a).length = n := by simp [spR]
theorem splitS_len : ∀ (k : Nat) (a : List Int) (e : Nat), a.length = 2 ^ k → (splitS k a e).length = 2 ^ k
  | 0, a, e, h => h
  | k + 1, a, e, h => by
    rw [splitS, List.length_append, splitS_len k _ _ (spL_len _ _ _), splitS_len k _ _ (spR_len _ _ _), Nat.pow_succ]
    omega
theorem q_split (K : Nat) (hK : K + 1 ≤ 8) : ∀ x r, gsp (K + 1) x = some r → ∃ N, @p_ref15_split ⟨gsp K⟩ N x = some r := by
  letI : SplitG := ⟨gsp K⟩
  unfold gsp
  refine Spec_of (ks := [.sl (.int .i64), .int .i64]) (rs := [.sl (.int .i64)]) fun x hw hq => ⟨200, ?_⟩
  obtain ⟨(a : List Int), (e : Int), u⟩ := x
  obtain ⟨⟨k, hk1, hk2, hlen⟩, hq, he0, he1⟩ : (∃ k, 1 ≤ k ∧ k ≤ K + 1 ∧ a.length = 2 ^ k) ∧ inQ a ∧ 0 ≤ e ∧ e ≤ 512 := hq
  obtain ⟨e, rfl⟩ : ∃ m : Nat, e = m := ⟨e.toNat, by omega⟩
  obtain ⟨k, rfl⟩ : ∃ j, k = j + 1 := ⟨k - 1, by omega⟩
  show p_ref15_split 200 (a, (e : Int), u) = some (splitS (Nat.log2 a.length) a (e : Int).toNat)
  rw [show Nat.log2 a.length = k + 1 by rw [hlen, Nat.log2_two_pow], Int.toNat_natCast, splitS]
  have hn1 : 1 ≤ 2 ^ k := Nat.two_pow_pos k
  have hn2 : 2 ^ k ≤ 2 ^ 7 := Nat.pow_le_pow_right (by omega) (by omega)
  rw [Nat.pow_succ] at hlen
  have hkk : 1 ≤ k → 2 ≤ 2 ^ k := fun h => Nat.le_trans (show 2 ≤ 2 ^ 1 by decide) (Nat.pow_le_pow_right (by omega) h)
  have hl0 := spL_len (2 ^ k) (1753 ^ (e / 2) % 8380417) a
  have hr0 := spR_len (2 ^ k) (1753 ^ (e / 2) % 8380417) a
  have hkz : k = 0 → 2 ^ k = 1 := fun h => by rw [h]
  generalize hn : 2 ^ k = n at hn1 hn2 hlen hkk hl0 hr0 hkz
  have e0 : IntKind.i64.wrap (Int.tdiv ((a.length : Nat) : Int) 2) = (n : Int) := by rw [tdiv_pos (by omega), wrap_i64 (by omega) (by omega)]; omega
  have e1 : IntKind.i64.wrap (Int.tdiv (e : Int) 2) = ((e / 2 : Nat) : Int) := by rw [tdiv_pos (by omega), wrap_i64 (by omega) (by omega)]; omega
  have e2 : IntKind.i64.wrap (((e / 2 : Nat) : Int) + 256) = ((e / 2 + 256 : Nat) : Int) := by rw [wrap_i64 (by omega) (by omega)]; omega
  unfold p_ref15_split
  dsimp only
  rw [e0, e1, if_neg (by omega), at_powern (by omega), Option.bind_some, if_pos (by omega), if_pos rfl, if_pos (by omega), if_pos (by omega), if_pos rfl, if_pos (by omega), Int.toNat_natCast]
  refine (split_loop 200 (n := n) (by omega) (by omega) (a := a) (by omega) hq (e : Int) (s := 1753 ^ (e / 2) % 8380417) (by omega) _).trans ?_
  dsimp only
  rw [e1, e2]
  by_cases hk : k = 0
  · subst hk
    have h1 := hkz rfl
    rw [if_pos (by omega), if_pos (by omega), if_pos (by omega)]
    rfl
  · have hk1 : 1 ≤ k := by omega
    have h2 := hkk hk1
    have g1 : g_ref15_split (spL n (1753 ^ (e / 2) % 8380417) a, ((e / 2 : Nat) : Int), ()) = some (splitS k (spL n (1753 ^ (e / 2) % 8380417) a) (e / 2)) := at_gsp (K := K) ⟨hk1, by omega⟩ (by omega) (by rw [hl0, hn]) (spL_q _ _ _) (by omega)
    have g2 : g_ref15_split (spR n (1753 ^ (e / 2) % 8380417) a, ((e / 2 + 256 : Nat) : Int), ()) = some (splitS k (spR n (1753 ^ (e / 2) % 8380417) a) (e / 2 + 256)) := at_gsp (K := K) ⟨hk1, by omega⟩ (by omega) (by rw [hr0, hn]) (spR_q _ _ _) (by omega)
    have l1 := splitS_len k (spL n (1753 ^ (e / 2) % 8380417) a) (e / 2) (by rw [hl0, hn])
    have l2 := splitS_len k (spR n (1753 ^ (e / 2) % 8380417) a) (e / 2 + 256) (by rw [hr0, hn])
    rw [if_neg (by omega), g1, Option.bind_some, if_neg (by omega), g2, Option.bind_some, if_pos (by omega)]
end Go.Ax.TryP
/-! ### split, at every length -/
namespace Go.Ax.TryP
theorem s_split (hp : SigOk Go.Proofs.Try.prog 62 ⟨[.int .i64, .int .i64], [.int .i64], g_ref15_power⟩) (hm : SigOk Go.Proofs.Try.prog 66 ⟨[.int .i64], [.int .i64], g_ref15_mod⟩) : ∀ K, K ≤ 8 → SigOk Go.Proofs.Try.prog 63 ⟨[.sl (.int .i64), .int .i64], [.sl (.int .i64)], gsp K⟩
  | 0, _ => by
    intro ok fz x vs w _ _ _ r hr
    have hr : gsp 0 x = some r := hr
    unfold gsp Spec at hr
    split at hr
    · rename_i hq
      obtain ⟨_, ⟨k, h1, h2, _⟩, _⟩ := hq
      omega
    · cases hr
  | K + 1, h => @p_ref15_split_ok ⟨gsp K⟩ hp hm (s_split hp hm K (by omega)) _ (q_split K h)
end Go.Ax.TryP
/-! ### The inverse by halves: definitions and facts on numbers -/
set_option linter.unusedVariables false
namespace Go.Ax.TryP
def dival (s : Nat) (a : List Int) (j : Nat) : Int :=
  if j % (2 * s) < s then (a.getD j 0 + a.getD (j + s) 0) % 8380417
  else dzeta (2 * (128 / s) - 1 - j / (2 * s)) * (a.getD j 0 - a.getD (j - s) 0) % 8380417
def diLayer (s : Nat) (a : List Int) : List Int := dpoly (dival s a)
def diStage (a : List Int) : Nat → List Int
  | 0 => fDRed a
  | i + 1 => diLayer (2 ^ i) (diStage a i)
def fDInv (a : List Int) : List Int := dpoly fun j => (diStage a 8).getD j 0 * 8347681 % 8380417
def joL (n : Nat) (l r : List Int) : List Int := (List.range n).map fun i => (l.getD i 0 + r.getD i 0) % 8380417 * 4190209 % 8380417
def joR (n : Nat) (s : Int) (l r : List Int) : List Int := (List.range n).map fun i => (l.getD i 0 - r.getD i 0) % 8380417 * s % 8380417
def joinS : Nat → List Int → Nat → List Int
  | 0, a, _ => a
  | k + 1, a, e => joL (2 ^ k) (joinS k (a.take (2 ^ k)) (e / 2)) (joinS k (a.drop (2 ^ k)) (e / 2 + 256)) ++ joR (2 ^ k) (1753 ^ (512 - e / 2) % 8380417 * 4190209 % 8380417) (joinS k (a.take (2 ^ k)) (e / 2)) (joinS k (a.drop (2 ^ k)) (e / 2 + 256))
theorem half_eight : (4190209 : Int) ^ 8 % 8380417 = 8347681 := by decide +kernel
theorem join_zeta : ∀ i, i < 8 → ∀ b, b < 2 ^ i → ((1753 : Int) ^ (512 - rev8 (2 ^ i + b)) + 1753 ^ rev8 (2 * 2 ^ i - 1 - b)) % 8380417 = 0 := by decide +kernel
end Go.Ax.TryP
/-! ### A layer of the inverse joins two blocks -/
set_option linter.unusedVariables false
namespace Go.Ax.TryP
theorem getD_appL {a b : List Int} {i : Nat} (h : i < a.length) : (a ++ b).getD i 0 = a.getD i 0 := by
  rw [List.getD_eq_getElem?_getD, List.getD_eq_getElem?_getD, List.getElem?_append_left h]
theorem getD_appR {a b : List Int} {i : Nat} (h : a.length ≤ i) : (a ++ b).getD i 0 = b.getD (i - a.length) 0 := by
  rw [List.getD_eq_getElem?_getD, List.getD_eq_getElem?_getD, List.getElem?_append_right h]
theorem blk_inv {s n : Nat} (hs : 0 < s) (hn : n * s = 128) {a : List Int} (ha : a.length = 256) {b : Nat} (hb : b < n) :
    blk (2 * s) (diLayer s a) b = ((List.range s).map fun t => ((blk s a (2 * b)).getD t 0 + (blk s a (2 * b + 1)).getD t 0) % 8380417) ++ (List.range s).map fun t => dzeta (2 * n - 1 - b) * ((blk s a (2 * b + 1)).getD t 0 - (blk s a (2 * b)).getD t 0) % 8380417 := by
  have hdiv : 128 / s = n := by rw [← hn]; exact Nat.mul_div_cancel n hs
  have hbs : b * s + s ≤ 128 := by
    have := Nat.mul_le_mul_right s (show b + 1 ≤ n by omega)
    rw [Nat.add_mul, Nat.one_mul, hn] at this
    exact this
  have e1 : 2 * b * s = 2 * (b * s) := Nat.mul_assoc 2 b s
  have e2 : (2 * b + 1) * s = 2 * (b * s) + s := by rw [Nat.add_mul, Nat.one_mul, e1]
  have e3 : b * (2 * s) = 2 * (b * s) := by rw [← Nat.mul_assoc, Nat.mul_comm b 2, Nat.mul_assoc]
  have e4 : 2 * s * b = 2 * (b * s) := by rw [Nat.mul_assoc, Nat.mul_comm s b]
  refine rows.ext (n := 2 * s) (blk_len (by rw [diLayer, dpoly_len, e3]; omega)) (by simp; omega) fun t ht => ?_
  rw [blk_getD ht, e3]
  unfold diLayer
  rw [dpoly_getD (by omega)]
  unfold dival
  have m1 : (2 * (b * s) + t) % (2 * s) = t := by rw [← e4, Nat.mul_add_mod, Nat.mod_eq_of_lt ht]
  have m2 : (2 * (b * s) + t) / (2 * s) = b := by rw [← e4, Nat.mul_add_div (by omega), Nat.div_eq_of_lt ht, Nat.add_zero]
  rw [m1, m2, hdiv]
  by_cases h : t < s
  · rw [if_pos h, getD_appL (by simp; exact h), map_range_getD h, blk_getD h, blk_getD h, e1, e2, show 2 * (b * s) + t + s = 2 * (b * s) + s + t by omega]
  · rw [if_neg h, getD_appR (by simp; omega)]
    simp only [List.length_map, List.length_range]
    rw [map_range_getD (by omega), blk_getD (by omega), blk_getD (by omega), e1, e2, show 2 * (b * s) + s + (t - s) = 2 * (b * s) + t by omega, show 2 * (b * s) + t - s = 2 * (b * s) + (t - s) by omega]
end Go.Ax.TryP
/-! ### The inverse by halves: arithmetic -/
set_option linter.unusedVariables false
namespace Go.Ax.TryP
theorem mm (a b : Int) : (a % 8380417 * b) % 8380417 = a * b % 8380417 := by rw [Int.mul_emod, Int.emod_emod_of_dvd _ (Int.dvd_refl _), ← Int.mul_emod]
theorem mm' (a b : Int) : (a * (b % 8380417)) % 8380417 = a * b % 8380417 := by rw [Int.mul_comm, mm, Int.mul_comm]
theorem j1 (A B H : Int) : (A * H % 8380417 + B * H % 8380417) % 8380417 * 4190209 % 8380417 = (A + B) % 8380417 * (H * 4190209) % 8380417 := by
  rw [mm, mm, show (A + B) * (H * 4190209) = (A * H + B * H) * 4190209 by grind]
  generalize A * H = x
  generalize B * H = y
  omega
/-- The halves' differences: z is the root's power, w its partner's, and their sum is nothing. -/
theorem j2 (A B H z w : Int) (h : (z + w) % 8380417 = 0) : (A * H % 8380417 - B * H % 8380417) % 8380417 * (z % 8380417 * 4190209 % 8380417) % 8380417 = w % 8380417 * (B - A) % 8380417 * (H * 4190209) % 8380417 := by
  obtain ⟨c, hc⟩ : ∃ c, z = 8380417 * c - w := ⟨(z + w) / 8380417, by omega⟩
  rw [mm, mm', Int.mul_comm (A * H % 8380417 - B * H % 8380417), Int.mul_assoc (z % 8380417), mm, mm, Int.mul_assoc (w % 8380417), mm]
  have e1 : A * H % 8380417 = A * H - 8380417 * (A * H / 8380417) := by omega
  have e2 : B * H % 8380417 = B * H - 8380417 * (B * H / 8380417) := by omega
  rw [e1, e2]
  generalize A * H / 8380417 = p
  generalize B * H / 8380417 = q
  refine (Int.emod_emod_of_dvd _ (Int.dvd_refl _)).symm.trans ?_
  have : z * (4190209 * (A * H - 8380417 * p - (B * H - 8380417 * q))) - w * ((B - A) * (H * 4190209)) = 8380417 * (c * (4190209 * (A * H - B * H)) - z * (4190209 * (p - q))) := by
    subst hc
    grind
  rw [Int.emod_emod_of_dvd _ (Int.dvd_refl _)]
  exact Int.emod_eq_emod_iff_emod_sub_eq_zero.2 (by rw [this, Int.mul_emod_right])
end Go.Ax.TryP
/-! ### The inverse by halves is the inverse by layers -/
set_option linter.unusedVariables false
namespace Go.Ax.TryP
theorem istage_len (a : List Int) : ∀ i, (diStage a i).length = 256
  | 0 => dpoly_len _
  | _ + 1 => dpoly_len _
theorem map_getD0 {f : Int → Int} {l : List Int} {i : Nat} (h : i < l.length) : (l.map f).getD i 0 = f (l.getD i 0) := by
  rw [List.getD_eq_getElem?_getD, List.getD_eq_getElem?_getD, List.getElem?_map, List.getElem?_eq_getElem h]
  rfl
theorem blk_take {s : Nat} {R : List Int} {b : Nat} : (blk (2 * s) R b).take s = blk s R (2 * b) := by
  unfold blk
  rw [List.take_take, Nat.min_eq_left (by omega), show b * (2 * s) = 2 * b * s by rw [Nat.mul_comm 2 s, ← Nat.mul_assoc, Nat.mul_comm (b * s) 2, ← Nat.mul_assoc]]
theorem blk_drop {s : Nat} {R : List Int} {b : Nat} : (blk (2 * s) R b).drop s = blk s R (2 * b + 1) := by
  unfold blk
  rw [List.drop_take, List.drop_drop, show 2 * s - s = s by omega, show b * (2 * s) + s = (2 * b + 1) * s by rw [Nat.add_mul, Nat.one_mul, Nat.mul_comm 2 s, ← Nat.mul_assoc, Nat.mul_comm (b * s) 2, ← Nat.mul_assoc]]
theorem join_blk (a : List Int) : ∀ k, k ≤ 8 → ∀ b, b < 2 ^ (8 - k) → joinS k (blk (2 ^ k) (fDRed a) b) (2 * rev8 (2 ^ (8 - k) + b)) = (blk (2 ^ k) (diStage a k) b).map fun z => z * 4190209 ^ k % 8380417
  | 0, _, b, hb => by
    show blk 1 (fDRed a) b = _
    refine (List.map_id _).symm.trans (List.map_congr_left fun z hz => ?_)
    obtain ⟨i, _, rfl⟩ := List.mem_map.1 (List.mem_of_mem_drop (List.mem_of_mem_take hz))
    simp
  | k + 1, hk, b, hb => by
    have hs : 2 ^ (7 - k) * 2 ^ k = 128 := by rw [← Nat.pow_add, show 7 - k + k = 7 by omega]
    have hb : b < 2 ^ (7 - k) := by rw [show 7 - k = 8 - (k + 1) by omega]; exact hb
    have h2 : 2 ^ (8 - k) = 2 * 2 ^ (7 - k) := by rw [show 8 - k = (7 - k) + 1 by omega, Nat.pow_succ, Nat.mul_comm]
    have hd := join_blk a k (by omega) (2 * b) (by omega)
    have hd' := join_blk a k (by omega) (2 * b + 1) (by omega)
    have hz := join_zeta (7 - k) (by omega) b hb
    have hl := istage_len a k
    have hv := blk_inv (Nat.two_pow_pos k) hs hl hb
    have hbs : b * 2 ^ k + 2 ^ k ≤ 128 := by
      have := Nat.mul_le_mul_right (2 ^ k) (show b + 1 ≤ 2 ^ (7 - k) by omega)
      rw [Nat.add_mul, Nat.one_mul, hs] at this
      exact this
    have hp0 : 0 < 2 ^ k := Nat.two_pow_pos k
    have l0 : (blk (2 ^ k) (diStage a k) (2 * b)).length = 2 ^ k := blk_len (by
      rw [hl, Nat.mul_assoc]
      generalize b * 2 ^ k = g at *
      generalize 2 ^ k = h at *
      omega)
    have l1 : (blk (2 ^ k) (diStage a k) (2 * b + 1)).length = 2 ^ k := blk_len (by
      have e2 : (2 * b + 1) * 2 ^ k = 2 * (b * 2 ^ k) + 2 ^ k := by rw [Nat.add_mul, Nat.one_mul, Nat.mul_assoc]
      rw [hl, e2]
      generalize b * 2 ^ k = g at *
      generalize 2 ^ k = h at *
      omega)
    have hp : (4190209 : Int) ^ (k + 1) = 4190209 ^ k * 4190209 := Int.pow_succ _ _
    rw [show 8 - (k + 1) = 7 - k by omega, joinS, Nat.mul_div_cancel_left _ (show 0 < 2 by omega), Nat.pow_succ, Nat.mul_comm (2 ^ k) 2, blk_take, blk_drop]
    show _ = (blk (2 * 2 ^ k) (diLayer (2 ^ k) (diStage a k)) b).map _
    rw [hv, List.map_append, hp]
    rw [h2] at hd hd'
    have lo : k = 0 ∨ 2 ^ (7 - k) + b < 128 := by
      rcases Nat.eq_zero_or_pos k with h | h
      · exact .inl h
      · have : 2 ^ (7 - k) ≤ 2 ^ 6 := Nat.pow_le_pow_right (by omega) (by omega)
        exact .inr (by omega)
    have hd2 : joinS k (blk (2 ^ k) (fDRed a) (2 * b)) (rev8 (2 ^ (7 - k) + b)) = (blk (2 ^ k) (diStage a k) (2 * b)).map fun z => z * 4190209 ^ k % 8380417 := by
      rcases lo with rfl | lo
      · exact hd
      · rw [← hd, show 2 * 2 ^ (7 - k) + 2 * b = 2 * (2 ^ (7 - k) + b) by omega, (rev_halves _ lo).1]
    have hd3 : joinS k (blk (2 ^ k) (fDRed a) (2 * b + 1)) (rev8 (2 ^ (7 - k) + b) + 256) = (blk (2 ^ k) (diStage a k) (2 * b + 1)).map fun z => z * 4190209 ^ k % 8380417 := by
      rcases lo with rfl | lo
      · exact hd'
      · rw [← hd', show 2 * 2 ^ (7 - k) + (2 * b + 1) = 2 * (2 ^ (7 - k) + b) + 1 by omega, (rev_halves _ lo).2]
    rw [hd2, hd3]
    congr 1
    · unfold joL
      rw [List.map_map]
      refine List.map_congr_left fun t ht => ?_
      have ht := List.mem_range.1 ht
      rw [map_getD0 (by omega), map_getD0 (by omega)]
      exact j1 _ _ _
    · unfold joR
      rw [List.map_map]
      refine List.map_congr_left fun t ht => ?_
      have ht := List.mem_range.1 ht
      rw [map_getD0 (by omega), map_getD0 (by omega)]
      exact j2 _ _ _ _ _ hz
theorem blk_all {R : List Int} (h : R.length = 256) : blk (2 ^ 8) R 0 = R := by
  unfold blk
  rw [Nat.zero_mul, List.drop_zero, List.take_of_length_le (by rw [h]; decide)]
/-- The inverse by halves. -/
theorem join_inv (a : List Int) : joinS 8 (fDRed a) 256 = fDInv a := by
  have h := join_blk a 8 (Nat.le_refl 8) 0 (by decide)
  rw [blk_all (show (fDRed a).length = 256 from dpoly_len _), blk_all (istage_len a 8), show 2 * rev8 (2 ^ (8 - 8) + 0) = 256 by decide +kernel] at h
  rw [h]
  refine rows.ext (n := 256) (by rw [List.length_map, istage_len]) (dpoly_len _) fun i hi => ?_
  rw [map_getD0 (by rw [istage_len]; exact hi), fDInv, dpoly_getD hi, ← mm', half_eight]
end Go.Ax.TryP
/-! ### join: its loop -/
set_option linter.unusedVariables false
namespace Go.Ax.TryP
theorem joL_q (n : Nat) (l r : List Int) : inQ (joL n l r) := fun z hz => by
  obtain ⟨i, _, rfl⟩ := List.mem_map.1 hz
  omega
theorem joR_q (n : Nat) (s : Int) (l r : List Int) : inQ (joR n s l r) := fun z hz => by
  obtain ⟨i, _, rfl⟩ := List.mem_map.1 hz
  omega
theorem joL_len (n : Nat) (l r : List Int) : (joL n l r).length = n := by simp [joL]
theorem joR_len (n : Nat) (s : Int) (l r : List Int) : (joR n s l r).length = n := by simp [joR]
theorem set_two {f g : Nat → Int} {n i : Nat} {y z : Int} (hi : i < n) (hy : y = f i) (hz : z = g i) : ((part f i (List.replicate n 0) ++ part g i (List.replicate n 0)).set i y).set (n + i) z = part f (i + 1) (List.replicate n 0) ++ part g (i + 1) (List.replicate n 0) := by
  have hl : (part f i (List.replicate n 0)).length = n := by rw [part_length (by rw [List.length_replicate]; omega), List.length_replicate]
  have hl' : (part f (i + 1) (List.replicate n 0)).length = n := by rw [part_length (by rw [List.length_replicate]; omega), List.length_replicate]
  rw [List.set_append_left _ _ (by omega), part_set' (by rw [List.length_replicate]; exact hi) hy, List.set_append_right _ _ (by omega), hl', Nat.add_sub_cancel_left, part_set' (by rw [List.length_replicate]; exact hi) hz]
theorem sum_half {x y : Int} (hx : 0 ≤ x ∧ x ≤ 8380416) (hy : 0 ≤ y ∧ y ≤ 8380416) : Int.tmod (IntKind.i64.wrap (Int.tmod (IntKind.i64.wrap (x + y)) 8380417 * 4190209)) 8380417 = (x + y) % 8380417 * 4190209 % 8380417 := by
  have e4 : Int.tmod (x + y) 8380417 = (x + y) % 8380417 := tmod_pos (by omega)
  rw [wrap_i64 (x := x + y) (by omega) (by omega), e4]
  have h5 : 0 ≤ (x + y) % 8380417 ∧ (x + y) % 8380417 ≤ 8380416 := by omega
  generalize (x + y) % 8380417 = g at h5
  rw [wrap_i64 (by omega) (by omega), tmod_pos (by omega)]
theorem diff_fac {x y s : Int} (hx : 0 ≤ x ∧ x ≤ 8380416) (hy : 0 ≤ y ∧ y ≤ 8380416) (hs : 0 ≤ s ∧ s ≤ 8380416) : Int.tmod (IntKind.i64.wrap ((x - y) % 8380417 * s)) 8380417 = (x - y) % 8380417 * s % 8380417 := by
  have h5 : 0 ≤ (x - y) % 8380417 ∧ (x - y) % 8380417 ≤ 8380416 := by omega
  generalize (x - y) % 8380417 = g at h5
  have hp0 : 0 ≤ g * s := Int.mul_nonneg h5.1 hs.1
  have hp1 : g * s ≤ 8380416 * 8380416 := Int.mul_le_mul h5.2 hs.2 hs.1 (by omega)
  rw [wrap_i64 (by omega) (by omega), tmod_pos hp0]
theorem join_loop0 (N : Nat) {n : Nat} (hn : n ≤ 128) (hN : n < N) {l r : List Int} (ql : inQ l) (qr : inQ r) {s : Int} (hs : 0 ≤ s ∧ s ≤ 8380416) [JoinG] {β : Type} (K : (Nat × Nat × List Int × Unit) → Option β) :
    iter (p_ref15_join_l9_F N) N ((n : Int), n, n, 4190209, s, 2 * n, (n : Int), 0, n, l, n, r, 2 * n, List.replicate (2 * n) 0, ()) K = K (2 * n, 2 * n, joL n l r ++ joR n s l r, ()) := by
  refine iter_from (F := p_ref15_join_l9_F N) (s := fun i => ((n : Int), n, n, 4190209, s, 2 * n, (n : Int), (i : Int), n, l, n, r, 2 * n, part (fun i => (l.getD i 0 + r.getD i 0) % 8380417 * 4190209 % 8380417) i (List.replicate n 0) ++ part (fun i => (l.getD i 0 - r.getD i 0) % 8380417 * s % 8380417) i (List.replicate n 0), ())) (y := (2 * n, 2 * n, joL n l r ++ joR n s l r, ())) n ?_ ?_ ?_ N hN
  · rw [part_zero, part_zero, List.replicate_append_replicate, Nat.two_mul]; rfl
  · intro i hi kn
    have h1 := inQ_at ql i
    have h2 := inQ_at qr i
    have e1 : IntKind.i64.wrap ((n : Int) + (i : Int)) = ((n + i : Nat) : Int) := by rw [wrap_i64 (by omega) (by omega)]; omega
    unfold p_ref15_join_l9_F
    dsimp only
    rw [e1, Int.toNat_natCast, Int.toNat_natCast, wrap_i64 (x := l.getD i 0 - r.getD i 0) (by omega) (by omega), at_modn (by omega), Option.bind_some]
    have e2 := diff_fac h1 h2 hs
    have e3 := sum_half h1 h2
    rw [e2, e3, if_pos (by omega), if_pos (by omega), if_pos (by omega), if_pos (by omega), if_pos (by omega), if_pos (by omega), if_pos (by omega), if_pos (by omega), if_pos (by omega), if_pos (by omega), if_pos (by omega), if_pos (by omega), if_pos (by omega), if_pos (by omega), if_pos (by omega), if_pos (by omega), if_pos (by omega), if_pos (by omega), if_pos (by omega),
      wrap_i64 (by omega) (by omega), set_two hi rfl rfl]
    rfl
  · intro kn
    unfold p_ref15_join_l9_F
    dsimp only
    rw [if_neg (by omega), part_all (by simp), part_all (by simp)]
    rfl
theorem join_loop3 (N : Nat) (hN : 1 < N) {a : List Int} (ha : a.length = 2) (hq : inQ a) {s : Int} (hs : 0 ≤ s ∧ s ≤ 8380416) [JoinG] {β : Type} (K : (Nat × Nat × List Int × Unit) → Option β) :
    iter (p_ref15_join_l9v3_F N) N (1, 1, 2, 1, 1, 1, 4190209, s, 2, 1, 0, 2, a, 2, List.replicate 2 0, ()) K = K (2, 2, joL 1 (a.take 1) (a.drop 1) ++ joR 1 s (a.take 1) (a.drop 1), ()) := by
  have h1 := inQ_at hq 0
  have h2 := inQ_at hq 1
  have el : (a.take 1).getD 0 0 = a.getD 0 0 := by rw [List.getD_eq_getElem?_getD, List.getD_eq_getElem?_getD, List.getElem?_take, if_pos (by omega)]
  have er : (a.drop 1).getD 0 0 = a.getD 1 0 := by rw [List.getD_eq_getElem?_getD, List.getD_eq_getElem?_getD, List.getElem?_drop]
  refine iter_from (F := p_ref15_join_l9v3_F N) (s := fun i => (1, 1, 2, 1, 1, 1, 4190209, s, 2, 1, (i : Int), 2, a, 2, part (fun i => ((a.take 1).getD i 0 + (a.drop 1).getD i 0) % 8380417 * 4190209 % 8380417) i (List.replicate 1 0) ++ part (fun i => ((a.take 1).getD i 0 - (a.drop 1).getD i 0) % 8380417 * s % 8380417) i (List.replicate 1 0), ())) (y := (2, 2, joL 1 (a.take 1) (a.drop 1) ++ joR 1 s (a.take 1) (a.drop 1), ())) 1 ?_ ?_ ?_ N hN
  · rw [part_zero, part_zero]; rfl
  · intro i hi kn
    obtain rfl : i = 0 := by omega
    unfold p_ref15_join_l9v3_F
    dsimp only
    rw [show (((0 : Nat) : Int)).toNat = 0 from rfl, show addN 1 0 = 1 from rfl, wrap_i64 (x := a.getD 0 0 - a.getD 1 0) (by omega) (by omega), at_modn (by omega), Option.bind_some]
    have e2 := diff_fac h1 h2 hs
    have e3 := sum_half h1 h2
    rw [e2, e3, show IntKind.i64.wrap (1 + ((0 : Nat) : Int)) = ((1 : Nat) : Int) by decide +kernel, if_pos (by omega), if_pos (by omega), if_pos (by omega), if_pos (by omega), if_pos (by omega), if_pos (by omega), if_pos (by omega), if_pos (by omega), if_pos (by omega), if_pos (by omega), if_pos (by omega), if_pos (by omega), if_pos (by omega), if_pos (by omega), if_pos (by omega), if_pos (by omega), if_pos (by omega), if_pos (by omega), if_pos (by omega)]
    have e6 := set_two (f := fun i => ((a.take 1).getD i 0 + (a.drop 1).getD i 0) % 8380417 * 4190209 % 8380417) (g := fun i => ((a.take 1).getD i 0 - (a.drop 1).getD i 0) % 8380417 * s % 8380417) (n := 1) (i := 0) hi (y := (a.getD 0 0 + a.getD 1 0) % 8380417 * 4190209 % 8380417) (z := (a.getD 0 0 - a.getD 1 0) % 8380417 * s % 8380417) (by rw [el, er]) (by rw [el, er])
    rw [Int.toNat_natCast]
    rw [e6]
    rfl
  · intro kn
    unfold p_ref15_join_l9v3_F
    dsimp only
    rw [if_neg (by omega), part_all (by simp), part_all (by simp)]
    rfl
end Go.Ax.TryP
/-! ### join: one length more -/
set_option linter.unusedVariables false
namespace Go.Ax.TryP
noncomputable def gjo (K : Nat) : List Int × Int × Unit → Option (List Int) := Spec (ks := [.sl (.int .i64), .int .i64]) (rs := [.sl (.int .i64)]) (fun x => (∃ k, 1 ≤ k ∧ k ≤ K ∧ x.1.length = 2 ^ k) ∧ inQ x.1 ∧ 0 ≤ x.2.1 ∧ x.2.1 ≤ 512) fun x => joinS (Nat.log2 x.1.length) x.1 x.2.1.toNat
theorem at_gjo {K k : Nat} (hk : 1 ≤ k ∧ k ≤ K) (hk8 : k ≤ 8) {a : List Int} (ha : a.length = 2 ^ k) (hq : inQ a) {e : Nat} (he : e ≤ 512) : gjo K (a, (e : Int), ()) = some (joinS k a e) := by
  have hM : 1000000 ≤ maxLen := by decide
  have h8 : 2 ^ k ≤ 2 ^ 8 := Nat.pow_le_pow_right (by omega) hk8
  have h := Spec_at (ks := [.sl (.int .i64), .int .i64]) (rs := [.sl (.int .i64)]) (x := (a, (e : Int), ())) (Q := fun x => (∃ k, 1 ≤ k ∧ k ≤ K ∧ x.1.length = 2 ^ k) ∧ inQ x.1 ∧ 0 ≤ x.2.1 ∧ x.2.1 ≤ 512) (f := fun x => joinS (Nat.log2 x.1.length) x.1 x.2.1.toNat)
    ⟨(wf_i64s (b := a)).2 ⟨by omega, fun z hz => by have := hq z hz; omega⟩, (okInt_i64 (n := (e : Int))).2 (by omega), trivial⟩ ⟨⟨k, hk.1, hk.2, ha⟩, hq, by show (0 : Int) ≤ e; omega, by show (e : Int) ≤ 512; omega⟩
  unfold gjo
  rw [h]
  show some (joinS (Nat.log2 a.length) a (e : Int).toNat) = _
  rw [ha, Nat.log2_two_pow, Int.toNat_natCast]
theorem joinS_len : ∀ (k : Nat) (a : List Int) (e : Nat), a.length = 2 ^ k → (joinS k a e).length = 2 ^ k
  | 0, a, e, h => h
  | k + 1, a, e, h => by
    rw [joinS, List.length_append, joL_len, joR_len, Nat.pow_succ]
    omega
theorem joinS_q : ∀ (k : Nat) (a : List Int) (e : Nat), inQ a → inQ (joinS k a e)
  | 0, a, e, h => h
  | k + 1, a, e, h => fun z hz => by
    rw [joinS] at hz
    rcases List.mem_append.1 hz with hz | hz
    · exact joL_q _ _ _ z hz
    · exact joR_q _ _ _ _ z hz
theorem q_join (K : Nat) (hK : K + 1 ≤ 8) : ∀ x r, gjo (K + 1) x = some r → ∃ N, @p_ref15_join ⟨gjo K⟩ N x = some r := by
  letI : JoinG := ⟨gjo K⟩
  unfold gjo
  refine Spec_of (ks := [.sl (.int .i64), .int .i64]) (rs := [.sl (.int .i64)]) fun x hw hq => ⟨200, ?_⟩
  obtain ⟨(a : List Int), (e : Int), u⟩ := x
  obtain ⟨⟨k, hk1, hk2, hlen⟩, hq, he0, he1⟩ : (∃ k, 1 ≤ k ∧ k ≤ K + 1 ∧ a.length = 2 ^ k) ∧ inQ a ∧ 0 ≤ e ∧ e ≤ 512 := hq
  obtain ⟨e, rfl⟩ : ∃ m : Nat, e = m := ⟨e.toNat, by omega⟩
  obtain ⟨k, rfl⟩ : ∃ j, k = j + 1 := ⟨k - 1, by omega⟩
  show p_ref15_join 200 (a, (e : Int), u) = some (joinS (Nat.log2 a.length) a (e : Int).toNat)
  rw [show Nat.log2 a.length = k + 1 by rw [hlen, Nat.log2_two_pow], Int.toNat_natCast, joinS]
  have hn1 : 1 ≤ 2 ^ k := Nat.two_pow_pos k
  have hn2 : 2 ^ k ≤ 2 ^ 7 := Nat.pow_le_pow_right (by omega) (by omega)
  rw [Nat.pow_succ] at hlen
  have hkk : 1 ≤ k → 2 ≤ 2 ^ k := fun h => Nat.le_trans (show 2 ≤ 2 ^ 1 by decide) (Nat.pow_le_pow_right (by omega) h)
  have hkz : k = 0 → 2 ^ k = 1 := fun h => by rw [h]
  have l1 := joinS_len k (a.take (2 ^ k)) (e / 2) (by rw [List.length_take]; omega)
  have l2 := joinS_len k (a.drop (2 ^ k)) (e / 2 + 256) (by rw [List.length_drop]; omega)
  generalize hn : 2 ^ k = n at hn1 hn2 hlen hkk hkz l1 l2
  have e0 : IntKind.i64.wrap (Int.tdiv ((a.length : Nat) : Int) 2) = (n : Int) := by rw [tdiv_pos (by omega), wrap_i64 (by omega) (by omega)]; omega
  have e1 : IntKind.i64.wrap (Int.tdiv (e : Int) 2) = ((e / 2 : Nat) : Int) := by rw [tdiv_pos (by omega), wrap_i64 (by omega) (by omega)]; omega
  have e2 : IntKind.i64.wrap (((e / 2 : Nat) : Int) + 256) = ((e / 2 + 256 : Nat) : Int) := by rw [wrap_i64 (by omega) (by omega)]; omega
  have e3 : IntKind.i64.wrap (512 - ((e / 2 : Nat) : Int)) = ((512 - e / 2 : Nat) : Int) := by rw [wrap_i64 (by omega) (by omega)]; omega
  have e4 : IntKind.i64.wrap (2 * (n : Int)) = ((2 * n : Nat) : Int) := by rw [wrap_i64 (by omega) (by omega)]; omega
  have e5 : ∀ z : Int, 0 ≤ z → z ≤ 8380416 → Int.tmod (IntKind.i64.wrap (z * 4190209)) 8380417 = z * 4190209 % 8380417 := fun z h0 h1 => by rw [wrap_i64 (by omega) (by omega), tmod_pos (by omega)]
  have e6 := e5 (1753 ^ (512 - e / 2) % 8380417) (by omega) (by omega)
  have e7 : subN a.length n = n := by rw [subN_eq]; omega
  unfold p_ref15_join
  dsimp only
  rw [e0, e1, e2, e3, e4, Int.toNat_natCast, Int.toNat_natCast, e7, List.drop_zero, List.take_of_length_le (i := n) (l := a.drop n) (by rw [List.length_drop]; omega), if_neg (by omega), if_pos (by omega), if_pos (by omega), at_powern (by omega), Option.bind_some, e6]
  by_cases hk : k = 0
  · subst hk
    have h1 := hkz rfl
    subst h1
    rw [if_pos (by omega), if_pos (by omega), if_pos (by omega), if_pos (by omega), if_pos (by omega), if_pos (by omega), if_pos (by omega)]
    rw [show a.length = 2 by omega]
    exact (join_loop3 200 (by omega) (a := a) (by omega) hq (s := 1753 ^ (512 - e / 2) % 8380417 * 4190209 % 8380417) (by omega) _)
  · have hk1 : 1 ≤ k := by omega
    have h2 := hkk hk1
    have qt : inQ (a.take n) := fun z hz => hq z (List.mem_of_mem_take hz)
    have qd : inQ (a.drop n) := fun z hz => hq z (List.mem_of_mem_drop hz)
    have g1 : g_ref15_join (a.take n, ((e / 2 : Nat) : Int), ()) = some (joinS k (a.take n) (e / 2)) := at_gjo (K := K) ⟨hk1, by omega⟩ (by omega) (by rw [List.length_take, hn]; omega) qt (by omega)
    have g2 : g_ref15_join (a.drop n, ((e / 2 + 256 : Nat) : Int), ()) = some (joinS k (a.drop n) (e / 2 + 256)) := at_gjo (K := K) ⟨hk1, by omega⟩ (by omega) (by rw [List.length_drop, hn]; omega) qd (by omega)
    rw [if_neg (by omega), g1, Option.bind_some, if_pos (by omega), if_pos (by omega), if_neg (by omega), g2, Option.bind_some, Option.bind_some, e6, if_pos (by omega), if_pos rfl, if_pos (by omega), l1, l2]
    exact join_loop0 200 (n := n) (by omega) (by omega) (joinS_q _ _ _ qt) (joinS_q _ _ _ qd) (s := 1753 ^ (512 - e / 2) % 8380417 * 4190209 % 8380417) (by omega) _
end Go.Ax.TryP
/-! ### join, at every length -/
namespace Go.Ax.TryP
theorem s_join (hp : SigOk Go.Proofs.Try.prog 62 ⟨[.int .i64, .int .i64], [.int .i64], g_ref15_power⟩) (hm : SigOk Go.Proofs.Try.prog 66 ⟨[.int .i64], [.int .i64], g_ref15_mod⟩) : ∀ K, K ≤ 8 → SigOk Go.Proofs.Try.prog 65 ⟨[.sl (.int .i64), .int .i64], [.sl (.int .i64)], gjo K⟩
  | 0, _ => by
    intro ok fz x vs w _ _ _ r hr
    have hr : gjo 0 x = some r := hr
    unfold gjo Spec at hr
    split at hr
    · rename_i hq
      obtain ⟨_, ⟨k, h1, h2, _⟩, _⟩ := hq
      omega
    · cases hr
  | K + 1, h => @p_ref15_join_ok ⟨gjo K⟩ (s_join hp hm K (by omega)) hp hm _ (q_join K h)
end Go.Ax.TryP
/-! ### The document's Ntt -/
namespace Go.Ax.TryP
noncomputable def g_ref15_Reduce : List Int × Unit → Option (List Int) := Spec (ks := [.xs (.int .i32) 256]) (rs := [.xs (.int .i32) 256]) (fun _ => True) fun x => fDRed x.1
noncomputable def g_ref15_Ntt : List Int × Unit → Option (List Int) := Spec (ks := [.xs (.int .i32) 256]) (rs := [.xs (.int .i32) 256]) (fun _ => True) fun x => fDNtt x.1
end Go.Ax.TryP
/-! Printed by program (gen.py). -/
set_option linter.unusedVariables false
namespace Go.Ax.TryP
variable [SplitG]
/-! livery/liveryref15.Ntt -/
noncomputable def p_ref15_Ntt_E : AE := AE.of [(2, ty2), (21, ty21), (23, ty23), (63, ty63)] [(40, ⟨[.xs (.int .i32) 256], [.xs (.int .i32) 256], g_ref15_Reduce⟩), (63, ⟨[.sl (.int .i64), .int .i64], [.sl (.int .i64)], g_ref15_split⟩)]
noncomputable def p_ref15_Ntt_H : Hints := [(4, [1, 2, 3, 11]), (10, [2, 5, 23, 24, 25]), (2000000, [2, 3]), (2000001, [1, 2, 3, 11]), (2000002, [2, 5]), (2000003, [2, 5, 23, 24, 25]), (3000000, [2])]
noncomputable def p_ref15_Ntt_c : Code := (Go.Proofs.Try.f33).body.getD .skip
noncomputable def p_ref15_Ntt_l4_S : Shape where
  h := { tmps := [.any, .sc (.ptr 0 0 false), .sc (.ptr 1 0 false), .sc (.vec 2 (some 256) 1), .any, .any, .any, .any, .any, .any, .any, .sc (.int .i64), .any, .any, .any, .any, .any, .any, .any, .any, .any, .any, .any, .any, .any, .any, .any, .any, .any, .any, .any, .any, .any, .any, .any, .any], mem := [.live [.xs (.int .i32) (some 256)] (.own), .live [.xs (.int .i32) (some 256)] (.own), .live [.xs (.int .i64) (some 256)] (.own)] }
  ks := [.int, .xs, .xs, .xs]
  st := fun x => { tmps := [.one .any, .one (.sc (.ptr 0 0 none)), .one (.sc (.ptr 1 0 none)), .one (.sc (.vec 2 256 1)), .one .any, .one .any, .one .any, .one .any, .one .any, .one .any, .one .any, .one (.sc (.int .i64 x.1)), .one .any, .one .any, .one .any, .one .any, .one .any, .one .any, .one .any, .one .any, .one .any, .one .any, .one .any, .one .any, .one .any, .one .any, .one .any, .one .any, .one .any, .one .any, .one .any, .one .any, .one .any, .one .any, .one .any, .one .any], mem := [.live { segs := [.xs (.int .i32) 256 x.2.1], own := .own }, .live { segs := [.xs (.int .i32) 256 x.2.2.1], own := .own }, .live { segs := [.xs (.int .i64) 256 x.2.2.2.1], own := .own }] }
noncomputable def p_ref15_Ntt_l4_F (N : Nat) (β : Type) (x : (Int × List Int × List Int × List Int × Unit)) (kn : (Int × List Int × List Int × List Int × Unit) → Option β) (ke : ((List Int × List Int × Unit)) → Option β) : Option β :=
  if (x.1 < (256:Int)) then
    if 0 ≤ x.1 then (
    if x.1 < 256 then (
    if (x.1.toNat) < 256 then (
    if 0 ≤ x.1 then (
    if x.1 < (256:Int) then (
    if (x.1.toNat) < 256 then (
    kn ((IntKind.i64.wrap (x.1 + (1:Int))), x.2.1, x.2.2.1, (List.set x.2.2.2.1 (x.1.toNat) (IntKind.i64.wrap (List.getD x.2.1 (x.1.toNat) 0))), ())) else none) else none) else none) else none) else none) else none
  else
    ke (x.2.2.1, x.2.2.2.1, ())
noncomputable def p_ref15_Ntt_l4_go : Go' ((List Int × List Int × Unit)) := fun y K => K (.exit 0) { tmps := [.one .any, .one .any, .one (.sc (.ptr 0 0 none)), .one (.sc (.vec 1 256 1)), .one .any, .one .any, .one .any, .one .any, .one .any, .one .any, .one .any, .one .any, .one .any, .one .any, .one .any, .one .any, .one .any, .one .any, .one .any, .one .any, .one .any, .one .any, .one .any, .one .any, .one .any, .one .any, .one .any, .one .any, .one .any, .one .any, .one .any, .one .any, .one .any, .one .any, .one .any, .one .any], mem := [.live { segs := [.xs (.int .i32) 256 y.1], own := .own }, .live { segs := [.xs (.int .i64) 256 y.2.1], own := .own }] }
noncomputable def p_ref15_Ntt_l4_L (N : Nat) : LT := upd (LT.nil) 4 (loopE p_ref15_Ntt_l4_S N (p_ref15_Ntt_l4_F N) p_ref15_Ntt_l4_go)
theorem p_ref15_Ntt_l4_ok (N : Nat) : OkAll p_ref15_Ntt_E p_ref15_Ntt_H N (p_ref15_Ntt_l4_L N) (subs p_ref15_Ntt_c) :=
  addLoop (c := theLoop 4 p_ref15_Ntt_c) (OkAll.nil) (by kernel_rfl) (fun x => by kernel_rfl) (fun β x kn ke => by kernel_rfl)
noncomputable def p_ref15_Ntt_l10_S : Shape where
  h := { tmps := [.any, .any, .sc (.ptr 0 0 false), .any, .any, .sc (.ptr 1 0 false), .any, .any, .any, .any, .any, .any, .any, .any, .any, .any, .any, .any, .any, .any, .any, .any, .any, .sc (.vec 2 none 1), .sc (.int .i64), .sc (.int .i64), .any, .any, .any, .any, .any, .any, .any, .any, .any, .any], mem := [.live [.xs (.int .i32) (some 256)] (.own), .live [.xs (.int .i32) (some 256)] (.own), .live [.xs (.int .i64) none] (.own)] }
  ks := [.nat, .int, .int, .xs, .xs, .nat, .xs]
  st := fun x => { tmps := [.one .any, .one .any, .one (.sc (.ptr 0 0 none)), .one .any, .one .any, .one (.sc (.ptr 1 0 none)), .one .any, .one .any, .one .any, .one .any, .one .any, .one .any, .one .any, .one .any, .one .any, .one .any, .one .any, .one .any, .one .any, .one .any, .one .any, .one .any, .one .any, .one (.sc (.vec 2 x.1 1)), .one (.sc (.int .i64 x.2.1)), .one (.sc (.int .i64 x.2.2.1)), .one .any, .one .any, .one .any, .one .any, .one .any, .one .any, .one .any, .one .any, .one .any, .one .any], mem := [.live { segs := [.xs (.int .i32) 256 x.2.2.2.1], own := .own }, .live { segs := [.xs (.int .i32) 256 x.2.2.2.2.1], own := .own }, .live { segs := [.xs (.int .i64) x.2.2.2.2.2.1 x.2.2.2.2.2.2.1], own := .own }] }
noncomputable def p_ref15_Ntt_l10_F (N : Nat) (β : Type) (x : (Nat × Int × Int × List Int × List Int × Nat × List Int × Unit)) (kn : (Nat × Int × Int × List Int × List Int × Nat × List Int × Unit) → Option β) (ke : ((List Int × List Int × Unit)) → Option β) : Option β :=
  if (x.2.2.1 < x.2.1) then
    if 0 ≤ x.2.2.1 then (
    if x.2.2.1 < ((x.1 : Nat) : Int) then (
    if (x.2.2.1.toNat) < x.2.2.2.2.2.1 then (
    if 0 ≤ x.2.2.1 then (
    if x.2.2.1 < 256 then (
    if (x.2.2.1.toNat) < 256 then (
    kn (x.1, x.2.1, (IntKind.i64.wrap (x.2.2.1 + (1:Int))), x.2.2.2.1, (List.set x.2.2.2.2.1 (x.2.2.1.toNat) (IntKind.i32.wrap (List.getD x.2.2.2.2.2.2.1 (x.2.2.1.toNat) 0))), x.2.2.2.2.2.1, x.2.2.2.2.2.2.1, ())) else none) else none) else none) else none) else none) else none
  else
    ke (x.2.2.2.1, x.2.2.2.2.1, ())
noncomputable def p_ref15_Ntt_l10_go : Go' ((List Int × List Int × Unit)) := fun y K => K (.exit 2) { tmps := [.one .any, .one .any, .one (.sc (.ptr 0 0 none)), .one .any, .one .any, .one (.sc (.ptr 1 0 none)), .one .any, .one .any, .one .any, .one .any, .one .any, .one .any, .one .any, .one .any, .one .any, .one .any, .one .any, .one .any, .one .any, .one .any, .one .any, .one .any, .one .any, .one .any, .one .any, .one .any, .one .any, .one .any, .one .any, .one .any, .one .any, .one .any, .one .any, .one .any, .one .any, .one .any], mem := [.live { segs := [.xs (.int .i32) 256 y.1], own := .own }, .live { segs := [.xs (.int .i32) 256 y.2.1], own := .own }] }
noncomputable def p_ref15_Ntt_l10_L (N : Nat) : LT := upd (p_ref15_Ntt_l4_L N) 10 (loopE p_ref15_Ntt_l10_S N (p_ref15_Ntt_l10_F N) p_ref15_Ntt_l10_go)
theorem p_ref15_Ntt_l10_ok (N : Nat) : OkAll p_ref15_Ntt_E p_ref15_Ntt_H N (p_ref15_Ntt_l10_L N) (subs p_ref15_Ntt_c) :=
  addLoop (c := theLoop 10 p_ref15_Ntt_c) (p_ref15_Ntt_l4_ok N) (by kernel_rfl) (fun x => by kernel_rfl) (fun β x kn ke => by kernel_rfl)
abbrev p_ref15_Ntt_ks : List Kd := [.xs (.int .i32) 256]
abbrev p_ref15_Ntt_rs : List Kd := [.xs (.int .i32) 256]
noncomputable def p_ref15_Ntt (N : Nat) (x : List Int × Unit) : Option (List Int) :=
  (g_ref15_Reduce (x.1, ())).bind fun r1 => (
  if 0 ≤ (256:Int) then (
  if (256:Int) = (256:Int) then (
  if (256:Int) * 8 ≤ 281474976710656 then (
  iter (p_ref15_Ntt_l4_F N) N ((0:Int), r1, (List.replicate 256 0), (List.replicate 256 0), ()) fun y2 => (
  (g_ref15_split (y2.2.1, (256:Int), ())).bind fun r3 => (
  iter (p_ref15_Ntt_l10_F N) N ((List.length r3), (((List.length r3) : Nat) : Int), (0:Int), y2.1, (List.replicate 256 0), (List.length r3), r3, ()) fun y4 => (
  some y4.2.1)))) else none) else none) else none)
theorem p_ref15_Ntt_eq (N : Nat) (x : Ds [.xs (.int .i32) 256]) : funL p_ref15_Ntt_E p_ref15_Ntt_H (p_ref15_Ntt_l10_L N) N Go.Proofs.Try.f33 p_ref15_Ntt_c [.xs (.int .i32) 256] [.xs (.int .i32) 256] x = p_ref15_Ntt N x := by kernel_rfl
theorem p_ref15_Ntt_Eok (he_ref15_Reduce : SigOk Go.Proofs.Try.prog 40 ⟨[.xs (.int .i32) 256], [.xs (.int .i32) 256], g_ref15_Reduce⟩) (he_ref15_split : SigOk Go.Proofs.Try.prog 63 ⟨[.sl (.int .i64), .int .i64], [.sl (.int .i64)], g_ref15_split⟩) : p_ref15_Ntt_E.Ok Go.Proofs.Try.prog := AE.of_ok (all_cons ty2_ok (all_cons ty21_ok (all_cons ty23_ok (all_cons ty63_ok all_nil)))) (all_cons ⟨he_ref15_Reduce, enters_ref15_Reduce⟩ (all_cons ⟨he_ref15_split, enters_ref15_split⟩ all_nil))
theorem p_ref15_Ntt_ok (he_ref15_Reduce : SigOk Go.Proofs.Try.prog 40 ⟨[.xs (.int .i32) 256], [.xs (.int .i32) 256], g_ref15_Reduce⟩) (he_ref15_split : SigOk Go.Proofs.Try.prog 63 ⟨[.sl (.int .i64), .int .i64], [.sl (.int .i64)], g_ref15_split⟩) {g : Ds [.xs (.int .i32) 256] → Option (Rs [.xs (.int .i32) 256])} (hg : ∀ x r, g x = some r → ∃ N, p_ref15_Ntt N x = some r) : SigOk Go.Proofs.Try.prog 33 ⟨[.xs (.int .i32) 256], [.xs (.int .i32) 256], g⟩ :=
  fun_of (E := p_ref15_Ntt_E) (H := p_ref15_Ntt_H) (L := fun N => p_ref15_Ntt_l10_L N) (c := p_ref15_Ntt_c) (ks := p_ref15_Ntt_ks) (rs := p_ref15_Ntt_rs) (F := p_ref15_Ntt) (p_ref15_Ntt_Eok he_ref15_Reduce he_ref15_split) mix Go.Proofs.Try.func33 (by kernel_rfl) (fun N => p_ref15_Ntt_l10_ok N) p_ref15_Ntt_eq hg
end Go.Ax.TryP
/-! ### The document's Ntt is the transform by layers -/
set_option linter.unusedVariables false
namespace Go.Ax.TryP
theorem red_q (a : List Int) : inQ (fDRed a) := fun z hz => by
  obtain ⟨i, _, rfl⟩ := List.mem_map.1 hz
  omega
theorem layer_q (s : Nat) (a : List Int) : inQ (dnLayer s a) := fun z hz => by
  obtain ⟨i, _, rfl⟩ := List.mem_map.1 hz
  unfold dnval
  split <;> omega
theorem at_rReduce {a : List Int} (h : i32s 256 a) : g_ref15_Reduce (a, ()) = some (fDRed a) := Spec_at (ks := [.xs (.int .i32) 256]) (rs := [.xs (.int .i32) 256]) (x := (a, ())) ⟨wf_i32s.2 h, trivial⟩ trivial
theorem q_ref15_Ntt : ∀ x r, g_ref15_Ntt x = some r → ∃ N, @p_ref15_Ntt ⟨gsp 8⟩ N x = some r := by
  letI : SplitG := ⟨gsp 8⟩
  refine Spec_of (ks := [.xs (.int .i32) 256]) (rs := [.xs (.int .i32) 256]) fun x hw hq => ⟨300, ?_⟩
  obtain ⟨(a : List Int), u⟩ := x
  have ha : i32s 256 a := wf_i32s.1 hw.1
  show p_ref15_Ntt 300 (a, u) = some (fDNtt a)
  have rl : (fDRed a).length = 256 := dpoly_len _
  have tl : (fDNtt a).length = 256 := stage_len a 8
  have tq : inQ (fDNtt a) := layer_q _ _
  unfold p_ref15_Ntt
  dsimp only
  rw [at_rReduce ha, Option.bind_some, if_pos (by omega), if_pos rfl, if_pos (by omega)]
  refine (iter_from (F := p_ref15_Ntt_l4_F 300) (s := fun i => ((i : Int), fDRed a, List.replicate 256 0, part (fun i => (fDRed a).getD i 0) i (List.replicate 256 0), ())) (y := (List.replicate 256 0, fDRed a, ())) 256 ?_ ?_ ?_ 300 (by omega)).trans ?_
  · rw [part_zero]; rfl
  · intro i hi kn
    have h1 := inQ_at (red_q a) i
    unfold p_ref15_Ntt_l4_F
    dsimp only
    rw [if_pos (by omega), if_pos (by omega), if_pos (by omega), Int.toNat_natCast, if_pos (by omega), if_pos (by omega), if_pos (by omega), if_pos (by omega), wrap_i64 (x := (fDRed a).getD i 0) (by omega) (by omega), wrap_i64 (by omega) (by omega), part_set' (by rw [List.length_replicate]; exact hi) rfl]
    rfl
  · intro kn
    unfold p_ref15_Ntt_l4_F
    dsimp only
    rw [if_neg (by omega), part_all List.length_replicate, map_getD rl]
  dsimp only
  have g1 : g_ref15_split (fDRed a, (256 : Int), ()) = some (fDNtt a) := by
    rw [← split_ntt]
    exact at_gsp (K := 8) (k := 8) (by omega) (by omega) rl (red_q a) (e := 256) (by omega)
  rw [g1, Option.bind_some, tl]
  refine (iter_from (F := p_ref15_Ntt_l10_F 300) (s := fun i => (256, (256 : Int), (i : Int), List.replicate 256 0, part (fun i => (fDNtt a).getD i 0) i (List.replicate 256 0), 256, fDNtt a, ())) (y := (List.replicate 256 0, fDNtt a, ())) 256 ?_ ?_ ?_ 300 (by omega)).trans ?_
  · rw [part_zero]; rfl
  · intro i hi kn
    have h1 := inQ_at tq i
    unfold p_ref15_Ntt_l10_F
    dsimp only
    rw [if_pos (by omega), if_pos (by omega), if_pos (by omega), Int.toNat_natCast, if_pos (by omega), if_pos (by omega), if_pos (by omega), if_pos (by omega), wrap_i32 (x := (fDNtt a).getD i 0) (by omega) (by omega), wrap_i64 (by omega) (by omega), part_set' (by rw [List.length_replicate]; exact hi) rfl]
    rfl
  · intro kn
    unfold p_ref15_Ntt_l10_F
    dsimp only
    rw [if_neg (by omega), part_all List.length_replicate, map_getD tl]
  · rfl
end Go.Ax.TryP
/-! ### What the functions of the ring modulo 8380417 compute -/
namespace Go.Ax.TryP
def dzeros : List Int := List.replicate 256 0
def fNear (x m : Int) : Int := if x % m > m / 2 then x % m - m else x % m
def fPl (z : Int) : Int := fNear (z % 8380417) 8192
def fPh (z : Int) : Int := (z % 8380417 - fPl z) / 8192
def fDl0 (z : Int) : Int := fNear (z % 8380417) 523776
def fDl (z : Int) : Int := if z % 8380417 - fDl0 z = 8380416 then fDl0 z - 1 else fDl0 z
def fDh (z : Int) : Int := if z % 8380417 - fDl0 z = 8380416 then 0 else (z % 8380417 - fDl0 z) / 523776
def fP2R (a : List Int) : List Int × List Int := (dpoly fun i => fPh (a.getD i 0), dpoly fun i => fPl (a.getD i 0))
def fDec (a : List Int) : List Int × List Int := (dpoly fun i => fDh (a.getD i 0), dpoly fun i => fDl (a.getD i 0))

noncomputable def g_dring_below : Int × Unit → Option Int := Spec (ks := [.int .i64]) (rs := [.int .i32]) (fun _ => True) fun x => x.1 % 8380417
noncomputable def g_dring_Reduce_1 : Int × Unit → Option Int := Spec (ks := [.int .i32]) (rs := [.int .i32]) (fun _ => True) fun x => x.1 % 8380417
noncomputable def g_dring_each__dring_Reduce_1 : List Int × Unit × Unit → Option (List Int) := Spec (ks := [.xs (.int .i32) 256, .fnc 58]) (rs := [.xs (.int .i32) 256]) (fun _ => True) fun x => fDRed x.1
noncomputable def g_dring_Reduce : List Int × Unit → Option (List Int) := Spec (ks := [.xs (.int .i32) 256]) (rs := [.xs (.int .i32) 256]) (fun _ => True) fun x => fDRed x.1
noncomputable def g_dring_near : Int × Int × Unit → Option Int := Spec (ks := [.int .i32, .int .i32]) (rs := [.int .i32]) (fun x => 0 ≤ x.1 ∧ x.1 ≤ 8380416 ∧ 0 < x.2.1 ∧ x.2.1 ≤ 523776) fun x => fNear x.1 x.2.1
noncomputable def g_dring_parts : Int × Unit → Option (Int × Int) := Spec (ks := [.int .i32]) (rs := [.int .i32, .int .i32]) (fun _ => True) fun x => (fDh x.1, fDl x.1)
noncomputable def g_dring_Power2Round : List Int × Unit → Option (List Int × List Int) := Spec (ks := [.xs (.int .i32) 256]) (rs := [.xs (.int .i32) 256, .xs (.int .i32) 256]) (fun _ => True) fun x => fP2R x.1
noncomputable def g_dring_Decompose : List Int × Unit → Option (List Int × List Int) := Spec (ks := [.xs (.int .i32) 256]) (rs := [.xs (.int .i32) 256, .xs (.int .i32) 256]) (fun _ => True) fun x => fDec x.1
noncomputable def g_ref15_Power2Round : List Int × Unit → Option (List Int × List Int) := Spec (ks := [.xs (.int .i32) 256]) (rs := [.xs (.int .i32) 256, .xs (.int .i32) 256]) (fun _ => True) fun x => fP2R x.1
noncomputable def g_ref15_Decompose : List Int × Unit → Option (List Int × List Int) := Spec (ks := [.xs (.int .i32) 256]) (rs := [.xs (.int .i32) 256, .xs (.int .i32) 256]) (fun _ => True) fun x => fDec x.1
noncomputable def g_law15_live : Unit → Option Bool := Spec (ks := []) (rs := [.bool]) (fun _ => True) fun _ => true
noncomputable def g_law15_DringRounds : List Int × Unit → Option Bool := Spec (ks := [.xs (.int .i32) 256]) (rs := [.bool]) (fun _ => True) fun _ => true

end Go.Ax.TryP
/-! ### The transform modulo 8380417, and products -/
namespace Go.Ax.TryP
def fDMulN (a b : List Int) : List Int := dpoly fun j => a.getD j 0 * b.getD j 0 % 8380417
def fDMul (a b : List Int) : List Int := fDInv (fDMulN (fDNtt a) (fDNtt b))
noncomputable def g_dring_times : Int × Int × Unit → Option Int := Spec (ks := [.int .i32, .int .i32]) (rs := [.int .i32]) (fun _ => True) fun x => x.1 * x.2.1 % 8380417
noncomputable def g_dring_powers : Unit → Option (List Int) := Spec (ks := []) (rs := [.xs (.int .i32) 256]) (fun _ => True) fun _ => (List.range 256).map dzeta
noncomputable def g_dring_Ntt : List Int × Unit → Option (List Int) := Spec (ks := [.xs (.int .i32) 256]) (rs := [.xs (.int .i32) 256]) (fun _ => True) fun x => fDNtt x.1
noncomputable def g_dring_Inv_1 : Int × Unit → Option Int := Spec (ks := [.int .i32]) (rs := [.int .i32]) (fun _ => True) fun x => x.1 * 8347681 % 8380417
noncomputable def g_dring_each__dring_Inv_1 : List Int × Unit × Unit → Option (List Int) := Spec (ks := [.xs (.int .i32) 256, .fnc 64]) (rs := [.xs (.int .i32) 256]) (fun _ => True) fun x => dpoly fun j => x.1.getD j 0 * 8347681 % 8380417
noncomputable def g_dring_Inv : List Int × Unit → Option (List Int) := Spec (ks := [.xs (.int .i32) 256]) (rs := [.xs (.int .i32) 256]) (fun _ => True) fun x => fDInv x.1
noncomputable def g_dring_MulNtt : List Int × List Int × Unit → Option (List Int) := Spec (ks := [.xs (.int .i32) 256, .xs (.int .i32) 256]) (rs := [.xs (.int .i32) 256]) (fun _ => True) fun x => fDMulN x.1 x.2.1
noncomputable def g_ref15_MulNtt : List Int × List Int × Unit → Option (List Int) := Spec (ks := [.xs (.int .i32) 256, .xs (.int .i32) 256]) (rs := [.xs (.int .i32) 256]) (fun _ => True) fun x => fDMulN x.1 x.2.1
noncomputable def g_dring_Mul : List Int × List Int × Unit → Option (List Int) := Spec (ks := [.xs (.int .i32) 256, .xs (.int .i32) 256]) (rs := [.xs (.int .i32) 256]) (fun _ => True) fun x => fDMul x.1 x.2.1
noncomputable def g_ref15_Mul : List Int × List Int × Unit → Option (List Int) := Spec (ks := [.xs (.int .i32) 256, .xs (.int .i32) 256]) (rs := [.xs (.int .i32) 256]) (fun _ => True) fun x => fDMul x.1 x.2.1
noncomputable def g_ref15_Direct : List Int × Unit → Option (List Int) := Spec (ks := [.xs (.int .i32) 256]) (rs := [.xs (.int .i32) 256]) (fun _ => True) fun x => fDNtt x.1
noncomputable def g_law15_DringTurns : List Int × List Int × Unit → Option Bool := Spec (ks := [.xs (.int .i32) 256, .xs (.int .i32) 256]) (rs := [.bool]) (fun _ => True) fun _ => true
noncomputable def g_law15_DringSums : List Int × List Int × Unit → Option Bool := Spec (ks := [.xs (.int .i32) 256, .xs (.int .i32) 256]) (rs := [.bool]) (fun _ => True) fun _ => true

end Go.Ax.TryP
/-! ### The document's inverse, and the law -/
namespace Go.Ax.TryP
noncomputable def g_bits_Reverse8 : Int × Unit → Option (Int) := Spec (ks := [.int .u8]) (rs := [.int .u8]) (fun _ => True) fun x => (rev8 x.1.toNat : Int)
noncomputable def g_ref15_Inv : List Int × Unit → Option (List Int) := Spec (ks := [.xs (.int .i32) 256]) (rs := [.xs (.int .i32) 256]) (fun _ => True) fun x => fDInv x.1
noncomputable def g_law15_DringNtts : List Int × List Int × Unit → Option Bool := Spec (ks := [.xs (.int .i32) 256, .xs (.int .i32) 256]) (rs := [.bool]) (fun _ => True) fun _ => true
end Go.Ax.TryP
/-! Printed by program (gen.py). -/
set_option linter.unusedVariables false
namespace Go.Ax.TryP
/-! livery/dring.below -/
noncomputable def p_dring_below_E : AE := AE.of [(2, ty2), (21, ty21)] []
noncomputable def p_dring_below_H : Hints := [(3000000, [2])]
noncomputable def p_dring_below_c : Code := (Go.Proofs.Try.f59).body.getD .skip
abbrev p_dring_below_ks : List Kd := [.int .i64]
abbrev p_dring_below_rs : List Kd := [.int .i32]
noncomputable def p_dring_below (N : Nat) (x : Int × Unit) : Option (Int) :=
  if ((Int.tmod x.1 (8380417:Int)) < (0:Int)) then
    some (IntKind.i32.wrap (IntKind.i64.wrap ((Int.tmod x.1 (8380417:Int)) + (8380417:Int))))
  else
    some (IntKind.i32.wrap (Int.tmod x.1 (8380417:Int)))
theorem p_dring_below_eq (N : Nat) (x : Ds [.int .i64]) : funL p_dring_below_E p_dring_below_H (LT.nil) N Go.Proofs.Try.f59 p_dring_below_c [.int .i64] [.int .i32] x = p_dring_below N x := by kernel_rfl
theorem p_dring_below_Eok : p_dring_below_E.Ok Go.Proofs.Try.prog := AE.of_ok (all_cons ty2_ok (all_cons ty21_ok all_nil)) all_nil
theorem p_dring_below_ok {g : Ds [.int .i64] → Option (Rs [.int .i32])} (hg : ∀ x r, g x = some r → ∃ N, p_dring_below N x = some r) : SigOk Go.Proofs.Try.prog 59 ⟨[.int .i64], [.int .i32], g⟩ :=
  fun_of (E := p_dring_below_E) (H := p_dring_below_H) (L := fun N => LT.nil) (c := p_dring_below_c) (ks := p_dring_below_ks) (rs := p_dring_below_rs) (F := p_dring_below) (p_dring_below_Eok) mix Go.Proofs.Try.func59 (by kernel_rfl) (fun N => OkAll.nil) p_dring_below_eq hg

/-! livery/dring.Reduce$1 -/
noncomputable def p_dring_Reduce_1_E : AE := AE.of [(2, ty2), (21, ty21)] [(59, ⟨[.int .i64], [.int .i32], g_dring_below⟩)]
noncomputable def p_dring_Reduce_1_H : Hints := [(3000000, [2])]
noncomputable def p_dring_Reduce_1_c : Code := (Go.Proofs.Try.f58).body.getD .skip
abbrev p_dring_Reduce_1_ks : List Kd := [.int .i32]
abbrev p_dring_Reduce_1_rs : List Kd := [.int .i32]
noncomputable def p_dring_Reduce_1 (N : Nat) (x : Int × Unit) : Option (Int) :=
  (g_dring_below ((IntKind.i64.wrap x.1), ())).bind fun r1 => (
  some r1)
theorem p_dring_Reduce_1_eq (N : Nat) (x : Ds [.int .i32]) : funL p_dring_Reduce_1_E p_dring_Reduce_1_H (LT.nil) N Go.Proofs.Try.f58 p_dring_Reduce_1_c [.int .i32] [.int .i32] x = p_dring_Reduce_1 N x := by kernel_rfl
theorem p_dring_Reduce_1_Eok (he_dring_below : SigOk Go.Proofs.Try.prog 59 ⟨[.int .i64], [.int .i32], g_dring_below⟩) : p_dring_Reduce_1_E.Ok Go.Proofs.Try.prog := AE.of_ok (all_cons ty2_ok (all_cons ty21_ok all_nil)) (all_cons ⟨he_dring_below, enters_dring_below⟩ all_nil)
theorem p_dring_Reduce_1_ok (he_dring_below : SigOk Go.Proofs.Try.prog 59 ⟨[.int .i64], [.int .i32], g_dring_below⟩) {g : Ds [.int .i32] → Option (Rs [.int .i32])} (hg : ∀ x r, g x = some r → ∃ N, p_dring_Reduce_1 N x = some r) : SigOk Go.Proofs.Try.prog 58 ⟨[.int .i32], [.int .i32], g⟩ :=
  fun_of (E := p_dring_Reduce_1_E) (H := p_dring_Reduce_1_H) (L := fun N => LT.nil) (c := p_dring_Reduce_1_c) (ks := p_dring_Reduce_1_ks) (rs := p_dring_Reduce_1_rs) (F := p_dring_Reduce_1) (p_dring_Reduce_1_Eok he_dring_below) mix Go.Proofs.Try.func58 (by kernel_rfl) (fun N => OkAll.nil) p_dring_Reduce_1_eq hg

/-! livery/dring.each -/
noncomputable def p_dring_each__dring_Reduce_1_E : AE := AE.of [(21, ty21), (23, ty23)] [(58, ⟨[.int .i32], [.int .i32], g_dring_Reduce_1⟩)]
noncomputable def p_dring_each__dring_Reduce_1_H : Hints := [(2, [1, 2, 4, 7, 8]), (2000000, [2, 4]), (2000001, [1, 2, 4, 7, 8]), (3000000, [4])]
noncomputable def p_dring_each__dring_Reduce_1_c : Code := (Go.Proofs.Try.f57).body.getD .skip
noncomputable def p_dring_each__dring_Reduce_1_l2_S : Shape where
  h := { tmps := [.any, .sc (.fn 58), .sc (.ptr 0 0 false), .any, .sc (.ptr 1 0 false), .any, .any, .agg [.xs (.int .i32) (some 256)], .sc (.int .i64), .any, .any, .any, .any, .any, .any, .any, .any, .any, .any], mem := [.live [.xs (.int .i32) (some 256)] (.own), .live [.xs (.int .i32) (some 256)] (.own)] }
  ks := [.xs, .int, .xs, .xs]
  st := fun x => { tmps := [.one .any, .one (.sc (.fn 58)), .one (.sc (.ptr 0 0 none)), .one .any, .one (.sc (.ptr 1 0 none)), .one .any, .one .any, .one (.agg [.xs (.int .i32) 256 x.1]), .one (.sc (.int .i64 x.2.1)), .one .any, .one .any, .one .any, .one .any, .one .any, .one .any, .one .any, .one .any, .one .any, .one .any], mem := [.live { segs := [.xs (.int .i32) 256 x.2.2.1], own := .own }, .live { segs := [.xs (.int .i32) 256 x.2.2.2.1], own := .own }] }
noncomputable def p_dring_each__dring_Reduce_1_l2_F (N : Nat) (β : Type) (x : (List Int × Int × List Int × List Int × Unit)) (kn : (List Int × Int × List Int × List Int × Unit) → Option β) (ke : ((List Int × List Int × Unit)) → Option β) : Option β :=
  if (x.2.1 < (256:Int)) then
    if 0 ≤ x.2.1 then (
    if x.2.1 < 256 then (
    if (x.2.1.toNat) < 256 then (
    (g_dring_Reduce_1 ((List.getD x.1 (x.2.1.toNat) 0), ())).bind fun r1 => (
    if 0 ≤ x.2.1 then (
    if x.2.1 < 256 then (
    if (x.2.1.toNat) < 256 then (
    kn (x.1, (IntKind.i64.wrap (x.2.1 + (1:Int))), (List.set x.2.2.1 (x.2.1.toNat) r1), x.2.2.2.1, ())) else none) else none) else none)) else none) else none) else none
  else
    ke (x.2.2.1, x.2.2.2.1, ())
noncomputable def p_dring_each__dring_Reduce_1_l2_go : Go' ((List Int × List Int × Unit)) := fun y K => K (.exit 0) { tmps := [.one .any, .one .any, .one (.sc (.ptr 0 0 none)), .one .any, .one (.sc (.ptr 1 0 none)), .one .any, .one .any, .one .any, .one .any, .one .any, .one .any, .one .any, .one .any, .one .any, .one .any, .one .any, .one .any, .one .any, .one .any], mem := [.live { segs := [.xs (.int .i32) 256 y.1], own := .own }, .live { segs := [.xs (.int .i32) 256 y.2.1], own := .own }] }
noncomputable def p_dring_each__dring_Reduce_1_l2_L (N : Nat) : LT := upd (LT.nil) 2 (loopE p_dring_each__dring_Reduce_1_l2_S N (p_dring_each__dring_Reduce_1_l2_F N) p_dring_each__dring_Reduce_1_l2_go)
theorem p_dring_each__dring_Reduce_1_l2_ok (N : Nat) : OkAll p_dring_each__dring_Reduce_1_E p_dring_each__dring_Reduce_1_H N (p_dring_each__dring_Reduce_1_l2_L N) (subs p_dring_each__dring_Reduce_1_c) :=
  addLoop (c := theLoop 2 p_dring_each__dring_Reduce_1_c) (OkAll.nil) (by kernel_rfl) (fun x => by kernel_rfl) (fun β x kn ke => by kernel_rfl)
abbrev p_dring_each__dring_Reduce_1_ks : List Kd := [.xs (.int .i32) 256, .fnc 58]
abbrev p_dring_each__dring_Reduce_1_rs : List Kd := [.xs (.int .i32) 256]
noncomputable def p_dring_each__dring_Reduce_1 (N : Nat) (x : List Int × Unit × Unit) : Option (List Int) :=
  iter (p_dring_each__dring_Reduce_1_l2_F N) N (x.1, (0:Int), x.1, (List.replicate 256 0), ()) fun y2 => (
  some y2.1)
theorem p_dring_each__dring_Reduce_1_eq (N : Nat) (x : Ds [.xs (.int .i32) 256, .fnc 58]) : funL p_dring_each__dring_Reduce_1_E p_dring_each__dring_Reduce_1_H (p_dring_each__dring_Reduce_1_l2_L N) N Go.Proofs.Try.f57 p_dring_each__dring_Reduce_1_c [.xs (.int .i32) 256, .fnc 58] [.xs (.int .i32) 256] x = p_dring_each__dring_Reduce_1 N x := by kernel_rfl
theorem p_dring_each__dring_Reduce_1_Eok (he_dring_Reduce_1 : SigOk Go.Proofs.Try.prog 58 ⟨[.int .i32], [.int .i32], g_dring_Reduce_1⟩) : p_dring_each__dring_Reduce_1_E.Ok Go.Proofs.Try.prog := AE.of_ok (all_cons ty21_ok (all_cons ty23_ok all_nil)) (all_cons ⟨he_dring_Reduce_1, enters_dring_Reduce_1⟩ all_nil)
theorem p_dring_each__dring_Reduce_1_ok (he_dring_Reduce_1 : SigOk Go.Proofs.Try.prog 58 ⟨[.int .i32], [.int .i32], g_dring_Reduce_1⟩) {g : Ds [.xs (.int .i32) 256, .fnc 58] → Option (Rs [.xs (.int .i32) 256])} (hg : ∀ x r, g x = some r → ∃ N, p_dring_each__dring_Reduce_1 N x = some r) : SigOk Go.Proofs.Try.prog 57 ⟨[.xs (.int .i32) 256, .fnc 58], [.xs (.int .i32) 256], g⟩ :=
  fun_of (E := p_dring_each__dring_Reduce_1_E) (H := p_dring_each__dring_Reduce_1_H) (L := fun N => p_dring_each__dring_Reduce_1_l2_L N) (c := p_dring_each__dring_Reduce_1_c) (ks := p_dring_each__dring_Reduce_1_ks) (rs := p_dring_each__dring_Reduce_1_rs) (F := p_dring_each__dring_Reduce_1) (p_dring_each__dring_Reduce_1_Eok he_dring_Reduce_1) mix Go.Proofs.Try.func57 (by kernel_rfl) (fun N => p_dring_each__dring_Reduce_1_l2_ok N) p_dring_each__dring_Reduce_1_eq hg

/-! livery/dring.Reduce -/
noncomputable def p_dring_Reduce_E : AE := AE.of [(23, ty23)] [(57, ⟨[.xs (.int .i32) 256, .fnc 58], [.xs (.int .i32) 256], g_dring_each__dring_Reduce_1⟩)]
noncomputable def p_dring_Reduce_H : Hints := [(3000000, [2])]
noncomputable def p_dring_Reduce_c : Code := (Go.Proofs.Try.f18).body.getD .skip
abbrev p_dring_Reduce_ks : List Kd := [.xs (.int .i32) 256]
abbrev p_dring_Reduce_rs : List Kd := [.xs (.int .i32) 256]
noncomputable def p_dring_Reduce (N : Nat) (x : List Int × Unit) : Option (List Int) :=
  (g_dring_each__dring_Reduce_1 (x.1, (), ())).bind fun r1 => (
  some r1)
theorem p_dring_Reduce_eq (N : Nat) (x : Ds [.xs (.int .i32) 256]) : funL p_dring_Reduce_E p_dring_Reduce_H (LT.nil) N Go.Proofs.Try.f18 p_dring_Reduce_c [.xs (.int .i32) 256] [.xs (.int .i32) 256] x = p_dring_Reduce N x := by kernel_rfl
theorem p_dring_Reduce_Eok (he_dring_each__dring_Reduce_1 : SigOk Go.Proofs.Try.prog 57 ⟨[.xs (.int .i32) 256, .fnc 58], [.xs (.int .i32) 256], g_dring_each__dring_Reduce_1⟩) : p_dring_Reduce_E.Ok Go.Proofs.Try.prog := AE.of_ok (all_cons ty23_ok all_nil) (all_cons ⟨he_dring_each__dring_Reduce_1, enters_dring_each⟩ all_nil)
theorem p_dring_Reduce_ok (he_dring_each__dring_Reduce_1 : SigOk Go.Proofs.Try.prog 57 ⟨[.xs (.int .i32) 256, .fnc 58], [.xs (.int .i32) 256], g_dring_each__dring_Reduce_1⟩) {g : Ds [.xs (.int .i32) 256] → Option (Rs [.xs (.int .i32) 256])} (hg : ∀ x r, g x = some r → ∃ N, p_dring_Reduce N x = some r) : SigOk Go.Proofs.Try.prog 18 ⟨[.xs (.int .i32) 256], [.xs (.int .i32) 256], g⟩ :=
  fun_of (E := p_dring_Reduce_E) (H := p_dring_Reduce_H) (L := fun N => LT.nil) (c := p_dring_Reduce_c) (ks := p_dring_Reduce_ks) (rs := p_dring_Reduce_rs) (F := p_dring_Reduce) (p_dring_Reduce_Eok he_dring_each__dring_Reduce_1) mix Go.Proofs.Try.func18 (by kernel_rfl) (fun N => OkAll.nil) p_dring_Reduce_eq hg

/-! livery/dring.near -/
noncomputable def p_dring_near_E : AE := AE.of [] []
noncomputable def p_dring_near_H : Hints := [(3000000, [4])]
noncomputable def p_dring_near_c : Code := (Go.Proofs.Try.f55).body.getD .skip
abbrev p_dring_near_ks : List Kd := [.int .i32, .int .i32]
abbrev p_dring_near_rs : List Kd := [.int .i32]
noncomputable def p_dring_near (N : Nat) (x : Int × Int × Unit) : Option (Int) :=
  if x.2.1 = 0 then none else (
  if ((Int.tmod x.1 x.2.1) > (IntKind.i32.wrap (Int.tdiv x.2.1 (2:Int)))) then
    some (IntKind.i32.wrap ((Int.tmod x.1 x.2.1) - x.2.1))
  else
    some (Int.tmod x.1 x.2.1))
theorem p_dring_near_eq (N : Nat) (x : Ds [.int .i32, .int .i32]) : funL p_dring_near_E p_dring_near_H (LT.nil) N Go.Proofs.Try.f55 p_dring_near_c [.int .i32, .int .i32] [.int .i32] x = p_dring_near N x := by kernel_rfl
theorem p_dring_near_Eok : p_dring_near_E.Ok Go.Proofs.Try.prog := AE.of_ok all_nil all_nil
theorem p_dring_near_ok {g : Ds [.int .i32, .int .i32] → Option (Rs [.int .i32])} (hg : ∀ x r, g x = some r → ∃ N, p_dring_near N x = some r) : SigOk Go.Proofs.Try.prog 55 ⟨[.int .i32, .int .i32], [.int .i32], g⟩ :=
  fun_of (E := p_dring_near_E) (H := p_dring_near_H) (L := fun N => LT.nil) (c := p_dring_near_c) (ks := p_dring_near_ks) (rs := p_dring_near_rs) (F := p_dring_near) (p_dring_near_Eok) mix Go.Proofs.Try.func55 (by kernel_rfl) (fun N => OkAll.nil) p_dring_near_eq hg

/-! livery/dring.parts -/
noncomputable def p_dring_parts_E : AE := AE.of [(2, ty2), (21, ty21)] [(59, ⟨[.int .i64], [.int .i32], g_dring_below⟩), (55, ⟨[.int .i32, .int .i32], [.int .i32], g_dring_near⟩)]
noncomputable def p_dring_parts_H : Hints := [(3000000, [2, 3])]
noncomputable def p_dring_parts_c : Code := (Go.Proofs.Try.f56).body.getD .skip
abbrev p_dring_parts_ks : List Kd := [.int .i32]
abbrev p_dring_parts_rs : List Kd := [.int .i32, .int .i32]
noncomputable def p_dring_parts (N : Nat) (x : Int × Unit) : Option (Int × Int) :=
  (g_dring_below ((IntKind.i64.wrap x.1), ())).bind fun r1 => (
  (g_dring_near (r1, (523776:Int), ())).bind fun r2 => (
  if ((IntKind.i32.wrap (r1 - r2)) = (8380416:Int)) then
    some ((0:Int), (IntKind.i32.wrap (r2 - (1:Int))))
  else
    some ((IntKind.i32.wrap (Int.tdiv (IntKind.i32.wrap (r1 - r2)) (523776:Int))), r2)))
theorem p_dring_parts_eq (N : Nat) (x : Ds [.int .i32]) : funL p_dring_parts_E p_dring_parts_H (LT.nil) N Go.Proofs.Try.f56 p_dring_parts_c [.int .i32] [.int .i32, .int .i32] x = p_dring_parts N x := by kernel_rfl
theorem p_dring_parts_Eok (he_dring_below : SigOk Go.Proofs.Try.prog 59 ⟨[.int .i64], [.int .i32], g_dring_below⟩) (he_dring_near : SigOk Go.Proofs.Try.prog 55 ⟨[.int .i32, .int .i32], [.int .i32], g_dring_near⟩) : p_dring_parts_E.Ok Go.Proofs.Try.prog := AE.of_ok (all_cons ty2_ok (all_cons ty21_ok all_nil)) (all_cons ⟨he_dring_below, enters_dring_below⟩ (all_cons ⟨he_dring_near, enters_dring_near⟩ all_nil))
theorem p_dring_parts_ok (he_dring_below : SigOk Go.Proofs.Try.prog 59 ⟨[.int .i64], [.int .i32], g_dring_below⟩) (he_dring_near : SigOk Go.Proofs.Try.prog 55 ⟨[.int .i32, .int .i32], [.int .i32], g_dring_near⟩) {g : Ds [.int .i32] → Option (Rs [.int .i32, .int .i32])} (hg : ∀ x r, g x = some r → ∃ N, p_dring_parts N x = some r) : SigOk Go.Proofs.Try.prog 56 ⟨[.int .i32], [.int .i32, .int .i32], g⟩ :=
  fun_of (E := p_dring_parts_E) (H := p_dring_parts_H) (L := fun N => LT.nil) (c := p_dring_parts_c) (ks := p_dring_parts_ks) (rs := p_dring_parts_rs) (F := p_dring_parts) (p_dring_parts_Eok he_dring_below he_dring_near) mix Go.Proofs.Try.func56 (by kernel_rfl) (fun N => OkAll.nil) p_dring_parts_eq hg

/-! livery/dring.Power2Round -/
noncomputable def p_dring_Power2Round_E : AE := AE.of [(21, ty21), (23, ty23)] [(18, ⟨[.xs (.int .i32) 256], [.xs (.int .i32) 256], g_dring_Reduce⟩), (55, ⟨[.int .i32, .int .i32], [.int .i32], g_dring_near⟩)]
noncomputable def p_dring_Power2Round_H : Hints := [(2, [2, 3, 7, 8]), (2000000, [2, 3]), (2000001, [2, 3, 7, 8]), (3000000, [2, 3])]
noncomputable def p_dring_Power2Round_c : Code := (Go.Proofs.Try.f13).body.getD .skip
noncomputable def p_dring_Power2Round_l2_S : Shape where
  h := { tmps := [.any, .any, .sc (.ptr 0 0 false), .sc (.ptr 1 0 false), .any, .any, .any, .agg [.xs (.int .i32) (some 256)], .sc (.int .i64), .any, .any, .any, .any, .any, .any, .any, .any, .any, .any, .any, .any, .any, .any, .any, .any, .any, .any], mem := [.live [.xs (.int .i32) (some 256)] (.own), .live [.xs (.int .i32) (some 256)] (.own)] }
  ks := [.xs, .int, .xs, .xs]
  st := fun x => { tmps := [.one .any, .one .any, .one (.sc (.ptr 0 0 none)), .one (.sc (.ptr 1 0 none)), .one .any, .one .any, .one .any, .one (.agg [.xs (.int .i32) 256 x.1]), .one (.sc (.int .i64 x.2.1)), .one .any, .one .any, .one .any, .one .any, .one .any, .one .any, .one .any, .one .any, .one .any, .one .any, .one .any, .one .any, .one .any, .one .any, .one .any, .one .any, .one .any, .one .any], mem := [.live { segs := [.xs (.int .i32) 256 x.2.2.1], own := .own }, .live { segs := [.xs (.int .i32) 256 x.2.2.2.1], own := .own }] }
noncomputable def p_dring_Power2Round_l2_F (N : Nat) (β : Type) (x : (List Int × Int × List Int × List Int × Unit)) (kn : (List Int × Int × List Int × List Int × Unit) → Option β) (ke : ((List Int × List Int × Unit)) → Option β) : Option β :=
  if (x.2.1 < (256:Int)) then
    if 0 ≤ x.2.1 then (
    if x.2.1 < 256 then (
    if (x.2.1.toNat) < 256 then (
    (g_dring_near ((List.getD x.1 (x.2.1.toNat) 0), (8192:Int), ())).bind fun r2 => (
    if 0 ≤ x.2.1 then (
    if x.2.1 < 256 then (
    if (x.2.1.toNat) < 256 then (
    if 0 ≤ x.2.1 then (
    if x.2.1 < 256 then (
    if (x.2.1.toNat) < 256 then (
    if 0 ≤ x.2.1 then (
    if x.2.1 < 256 then (
    if (x.2.1.toNat) < 256 then (
    kn (x.1, (IntKind.i64.wrap (x.2.1 + (1:Int))), (List.set x.2.2.1 (x.2.1.toNat) (ishr IntKind.i32 (IntKind.i32.wrap ((List.getD x.1 (x.2.1.toNat) 0) - (List.getD (List.set x.2.2.2.1 (x.2.1.toNat) r2) (x.2.1.toNat) 0))) (13:Int))), (List.set x.2.2.2.1 (x.2.1.toNat) r2), ())) else none) else none) else none) else none) else none) else none) else none) else none) else none)) else none) else none) else none
  else
    ke (x.2.2.1, x.2.2.2.1, ())
noncomputable def p_dring_Power2Round_l2_go : Go' ((List Int × List Int × Unit)) := fun y K => K (.exit 0) { tmps := [.one .any, .one .any, .one (.sc (.ptr 0 0 none)), .one (.sc (.ptr 1 0 none)), .one .any, .one .any, .one .any, .one .any, .one .any, .one .any, .one .any, .one .any, .one .any, .one .any, .one .any, .one .any, .one .any, .one .any, .one .any, .one .any, .one .any, .one .any, .one .any, .one .any, .one .any, .one .any, .one .any], mem := [.live { segs := [.xs (.int .i32) 256 y.1], own := .own }, .live { segs := [.xs (.int .i32) 256 y.2.1], own := .own }] }
noncomputable def p_dring_Power2Round_l2_L (N : Nat) : LT := upd (LT.nil) 2 (loopE p_dring_Power2Round_l2_S N (p_dring_Power2Round_l2_F N) p_dring_Power2Round_l2_go)
theorem p_dring_Power2Round_l2_ok (N : Nat) : OkAll p_dring_Power2Round_E p_dring_Power2Round_H N (p_dring_Power2Round_l2_L N) (subs p_dring_Power2Round_c) :=
  addLoop (c := theLoop 2 p_dring_Power2Round_c) (OkAll.nil) (by kernel_rfl) (fun x => by kernel_rfl) (fun β x kn ke => by kernel_rfl)
abbrev p_dring_Power2Round_ks : List Kd := [.xs (.int .i32) 256]
abbrev p_dring_Power2Round_rs : List Kd := [.xs (.int .i32) 256, .xs (.int .i32) 256]
noncomputable def p_dring_Power2Round (N : Nat) (x : List Int × Unit) : Option (List Int × List Int) :=
  (g_dring_Reduce (x.1, ())).bind fun r1 => (
  iter (p_dring_Power2Round_l2_F N) N (r1, (0:Int), (List.replicate 256 0), (List.replicate 256 0), ()) fun y3 => (
  some (y3.1, y3.2.1)))
theorem p_dring_Power2Round_eq (N : Nat) (x : Ds [.xs (.int .i32) 256]) : funL p_dring_Power2Round_E p_dring_Power2Round_H (p_dring_Power2Round_l2_L N) N Go.Proofs.Try.f13 p_dring_Power2Round_c [.xs (.int .i32) 256] [.xs (.int .i32) 256, .xs (.int .i32) 256] x = p_dring_Power2Round N x := by kernel_rfl
theorem p_dring_Power2Round_Eok (he_dring_Reduce : SigOk Go.Proofs.Try.prog 18 ⟨[.xs (.int .i32) 256], [.xs (.int .i32) 256], g_dring_Reduce⟩) (he_dring_near : SigOk Go.Proofs.Try.prog 55 ⟨[.int .i32, .int .i32], [.int .i32], g_dring_near⟩) : p_dring_Power2Round_E.Ok Go.Proofs.Try.prog := AE.of_ok (all_cons ty21_ok (all_cons ty23_ok all_nil)) (all_cons ⟨he_dring_Reduce, enters_dring_Reduce⟩ (all_cons ⟨he_dring_near, enters_dring_near⟩ all_nil))
theorem p_dring_Power2Round_ok (he_dring_Reduce : SigOk Go.Proofs.Try.prog 18 ⟨[.xs (.int .i32) 256], [.xs (.int .i32) 256], g_dring_Reduce⟩) (he_dring_near : SigOk Go.Proofs.Try.prog 55 ⟨[.int .i32, .int .i32], [.int .i32], g_dring_near⟩) {g : Ds [.xs (.int .i32) 256] → Option (Rs [.xs (.int .i32) 256, .xs (.int .i32) 256])} (hg : ∀ x r, g x = some r → ∃ N, p_dring_Power2Round N x = some r) : SigOk Go.Proofs.Try.prog 13 ⟨[.xs (.int .i32) 256], [.xs (.int .i32) 256, .xs (.int .i32) 256], g⟩ :=
  fun_of (E := p_dring_Power2Round_E) (H := p_dring_Power2Round_H) (L := fun N => p_dring_Power2Round_l2_L N) (c := p_dring_Power2Round_c) (ks := p_dring_Power2Round_ks) (rs := p_dring_Power2Round_rs) (F := p_dring_Power2Round) (p_dring_Power2Round_Eok he_dring_Reduce he_dring_near) mix Go.Proofs.Try.func13 (by kernel_rfl) (fun N => p_dring_Power2Round_l2_ok N) p_dring_Power2Round_eq hg

/-! livery/dring.Decompose -/
noncomputable def p_dring_Decompose_E : AE := AE.of [(21, ty21), (23, ty23)] [(56, ⟨[.int .i32], [.int .i32, .int .i32], g_dring_parts⟩)]
noncomputable def p_dring_Decompose_H : Hints := [(2, [2, 3, 6, 7]), (2000000, [2, 3]), (2000001, [2, 3, 6, 7]), (3000000, [2, 3])]
noncomputable def p_dring_Decompose_c : Code := (Go.Proofs.Try.f15).body.getD .skip
noncomputable def p_dring_Decompose_l2_S : Shape where
  h := { tmps := [.any, .any, .sc (.ptr 0 0 false), .sc (.ptr 1 0 false), .any, .any, .agg [.xs (.int .i32) (some 256)], .sc (.int .i64), .any, .any, .any, .any, .any, .any, .any, .any, .any, .any, .any, .any, .any, .any, .any], mem := [.live [.xs (.int .i32) (some 256)] (.own), .live [.xs (.int .i32) (some 256)] (.own)] }
  ks := [.xs, .int, .xs, .xs]
  st := fun x => { tmps := [.one .any, .one .any, .one (.sc (.ptr 0 0 none)), .one (.sc (.ptr 1 0 none)), .one .any, .one .any, .one (.agg [.xs (.int .i32) 256 x.1]), .one (.sc (.int .i64 x.2.1)), .one .any, .one .any, .one .any, .one .any, .one .any, .one .any, .one .any, .one .any, .one .any, .one .any, .one .any, .one .any, .one .any, .one .any, .one .any], mem := [.live { segs := [.xs (.int .i32) 256 x.2.2.1], own := .own }, .live { segs := [.xs (.int .i32) 256 x.2.2.2.1], own := .own }] }
noncomputable def p_dring_Decompose_l2_F (N : Nat) (β : Type) (x : (List Int × Int × List Int × List Int × Unit)) (kn : (List Int × Int × List Int × List Int × Unit) → Option β) (ke : ((List Int × List Int × Unit)) → Option β) : Option β :=
  if (x.2.1 < (256:Int)) then
    if 0 ≤ x.2.1 then (
    if x.2.1 < 256 then (
    if (x.2.1.toNat) < 256 then (
    (g_dring_parts ((List.getD x.1 (x.2.1.toNat) 0), ())).bind fun r1 => (
    if 0 ≤ x.2.1 then (
    if x.2.1 < 256 then (
    if (x.2.1.toNat) < 256 then (
    if 0 ≤ x.2.1 then (
    if x.2.1 < 256 then (
    if (x.2.1.toNat) < 256 then (
    kn (x.1, (IntKind.i64.wrap (x.2.1 + (1:Int))), (List.set x.2.2.1 (x.2.1.toNat) r1.1), (List.set x.2.2.2.1 (x.2.1.toNat) r1.2), ())) else none) else none) else none) else none) else none) else none)) else none) else none) else none
  else
    ke (x.2.2.1, x.2.2.2.1, ())
noncomputable def p_dring_Decompose_l2_go : Go' ((List Int × List Int × Unit)) := fun y K => K (.exit 0) { tmps := [.one .any, .one .any, .one (.sc (.ptr 0 0 none)), .one (.sc (.ptr 1 0 none)), .one .any, .one .any, .one .any, .one .any, .one .any, .one .any, .one .any, .one .any, .one .any, .one .any, .one .any, .one .any, .one .any, .one .any, .one .any, .one .any, .one .any, .one .any, .one .any], mem := [.live { segs := [.xs (.int .i32) 256 y.1], own := .own }, .live { segs := [.xs (.int .i32) 256 y.2.1], own := .own }] }
noncomputable def p_dring_Decompose_l2_L (N : Nat) : LT := upd (LT.nil) 2 (loopE p_dring_Decompose_l2_S N (p_dring_Decompose_l2_F N) p_dring_Decompose_l2_go)
theorem p_dring_Decompose_l2_ok (N : Nat) : OkAll p_dring_Decompose_E p_dring_Decompose_H N (p_dring_Decompose_l2_L N) (subs p_dring_Decompose_c) :=
  addLoop (c := theLoop 2 p_dring_Decompose_c) (OkAll.nil) (by kernel_rfl) (fun x => by kernel_rfl) (fun β x kn ke => by kernel_rfl)
abbrev p_dring_Decompose_ks : List Kd := [.xs (.int .i32) 256]
abbrev p_dring_Decompose_rs : List Kd := [.xs (.int .i32) 256, .xs (.int .i32) 256]
noncomputable def p_dring_Decompose (N : Nat) (x : List Int × Unit) : Option (List Int × List Int) :=
  iter (p_dring_Decompose_l2_F N) N (x.1, (0:Int), (List.replicate 256 0), (List.replicate 256 0), ()) fun y2 => (
  some (y2.1, y2.2.1))
theorem p_dring_Decompose_eq (N : Nat) (x : Ds [.xs (.int .i32) 256]) : funL p_dring_Decompose_E p_dring_Decompose_H (p_dring_Decompose_l2_L N) N Go.Proofs.Try.f15 p_dring_Decompose_c [.xs (.int .i32) 256] [.xs (.int .i32) 256, .xs (.int .i32) 256] x = p_dring_Decompose N x := by kernel_rfl
theorem p_dring_Decompose_Eok (he_dring_parts : SigOk Go.Proofs.Try.prog 56 ⟨[.int .i32], [.int .i32, .int .i32], g_dring_parts⟩) : p_dring_Decompose_E.Ok Go.Proofs.Try.prog := AE.of_ok (all_cons ty21_ok (all_cons ty23_ok all_nil)) (all_cons ⟨he_dring_parts, enters_dring_parts⟩ all_nil)
theorem p_dring_Decompose_ok (he_dring_parts : SigOk Go.Proofs.Try.prog 56 ⟨[.int .i32], [.int .i32, .int .i32], g_dring_parts⟩) {g : Ds [.xs (.int .i32) 256] → Option (Rs [.xs (.int .i32) 256, .xs (.int .i32) 256])} (hg : ∀ x r, g x = some r → ∃ N, p_dring_Decompose N x = some r) : SigOk Go.Proofs.Try.prog 15 ⟨[.xs (.int .i32) 256], [.xs (.int .i32) 256, .xs (.int .i32) 256], g⟩ :=
  fun_of (E := p_dring_Decompose_E) (H := p_dring_Decompose_H) (L := fun N => p_dring_Decompose_l2_L N) (c := p_dring_Decompose_c) (ks := p_dring_Decompose_ks) (rs := p_dring_Decompose_rs) (F := p_dring_Decompose) (p_dring_Decompose_Eok he_dring_parts) mix Go.Proofs.Try.func15 (by kernel_rfl) (fun N => p_dring_Decompose_l2_ok N) p_dring_Decompose_eq hg

/-! livery/liveryref15.mod -/
noncomputable def p_ref15_mod_E : AE := AE.of [] []
noncomputable def p_ref15_mod_H : Hints := [(3000000, [2])]
noncomputable def p_ref15_mod_c : Code := (Go.Proofs.Try.f66).body.getD .skip
abbrev p_ref15_mod_ks : List Kd := [.int .i64]
abbrev p_ref15_mod_rs : List Kd := [.int .i64]
noncomputable def p_ref15_mod (N : Nat) (x : Int × Unit) : Option (Int) :=
  if ((Int.tmod x.1 (8380417:Int)) < (0:Int)) then
    some (IntKind.i64.wrap ((Int.tmod x.1 (8380417:Int)) + (8380417:Int)))
  else
    some (Int.tmod x.1 (8380417:Int))
theorem p_ref15_mod_eq (N : Nat) (x : Ds [.int .i64]) : funL p_ref15_mod_E p_ref15_mod_H (LT.nil) N Go.Proofs.Try.f66 p_ref15_mod_c [.int .i64] [.int .i64] x = p_ref15_mod N x := by kernel_rfl
theorem p_ref15_mod_Eok : p_ref15_mod_E.Ok Go.Proofs.Try.prog := AE.of_ok all_nil all_nil
theorem p_ref15_mod_ok {g : Ds [.int .i64] → Option (Rs [.int .i64])} (hg : ∀ x r, g x = some r → ∃ N, p_ref15_mod N x = some r) : SigOk Go.Proofs.Try.prog 66 ⟨[.int .i64], [.int .i64], g⟩ :=
  fun_of (E := p_ref15_mod_E) (H := p_ref15_mod_H) (L := fun N => LT.nil) (c := p_ref15_mod_c) (ks := p_ref15_mod_ks) (rs := p_ref15_mod_rs) (F := p_ref15_mod) (p_ref15_mod_Eok) mix Go.Proofs.Try.func66 (by kernel_rfl) (fun N => OkAll.nil) p_ref15_mod_eq hg

/-! livery/liveryref15.Reduce -/
noncomputable def p_ref15_Reduce_E : AE := AE.of [(2, ty2), (21, ty21), (23, ty23)] [(66, ⟨[.int .i64], [.int .i64], g_ref15_mod⟩)]
noncomputable def p_ref15_Reduce_H : Hints := [(2, [1, 2, 4]), (2000000, [1, 2]), (2000001, [1, 2, 4]), (3000000, [2])]
noncomputable def p_ref15_Reduce_c : Code := (Go.Proofs.Try.f40).body.getD .skip
noncomputable def p_ref15_Reduce_l2_S : Shape where
  h := { tmps := [.any, .sc (.ptr 0 0 false), .sc (.ptr 1 0 false), .any, .sc (.int .i64), .any, .any, .any, .any, .any, .any, .any, .any, .any, .any, .any, .any], mem := [.live [.xs (.int .i32) (some 256)] (.own), .live [.xs (.int .i32) (some 256)] (.own)] }
  ks := [.int, .xs, .xs]
  st := fun x => { tmps := [.one .any, .one (.sc (.ptr 0 0 none)), .one (.sc (.ptr 1 0 none)), .one .any, .one (.sc (.int .i64 x.1)), .one .any, .one .any, .one .any, .one .any, .one .any, .one .any, .one .any, .one .any, .one .any, .one .any, .one .any, .one .any], mem := [.live { segs := [.xs (.int .i32) 256 x.2.1], own := .own }, .live { segs := [.xs (.int .i32) 256 x.2.2.1], own := .own }] }
noncomputable def p_ref15_Reduce_l2_F (N : Nat) (β : Type) (x : (Int × List Int × List Int × Unit)) (kn : (Int × List Int × List Int × Unit) → Option β) (ke : ((List Int × List Int × Unit)) → Option β) : Option β :=
  if (x.1 < (256:Int)) then
    if 0 ≤ x.1 then (
    if x.1 < 256 then (
    if (x.1.toNat) < 256 then (
    (g_ref15_mod ((IntKind.i64.wrap (List.getD x.2.1 (x.1.toNat) 0)), ())).bind fun r1 => (
    if 0 ≤ x.1 then (
    if x.1 < 256 then (
    if (x.1.toNat) < 256 then (
    kn ((IntKind.i64.wrap (x.1 + (1:Int))), (List.set x.2.1 (x.1.toNat) (IntKind.i32.wrap r1)), x.2.2.1, ())) else none) else none) else none)) else none) else none) else none
  else
    ke (x.2.1, x.2.2.1, ())
noncomputable def p_ref15_Reduce_l2_go : Go' ((List Int × List Int × Unit)) := fun y K => K (.exit 0) { tmps := [.one .any, .one (.sc (.ptr 0 0 none)), .one (.sc (.ptr 1 0 none)), .one .any, .one .any, .one .any, .one .any, .one .any, .one .any, .one .any, .one .any, .one .any, .one .any, .one .any, .one .any, .one .any, .one .any], mem := [.live { segs := [.xs (.int .i32) 256 y.1], own := .own }, .live { segs := [.xs (.int .i32) 256 y.2.1], own := .own }] }
noncomputable def p_ref15_Reduce_l2_L (N : Nat) : LT := upd (LT.nil) 2 (loopE p_ref15_Reduce_l2_S N (p_ref15_Reduce_l2_F N) p_ref15_Reduce_l2_go)
theorem p_ref15_Reduce_l2_ok (N : Nat) : OkAll p_ref15_Reduce_E p_ref15_Reduce_H N (p_ref15_Reduce_l2_L N) (subs p_ref15_Reduce_c) :=
  addLoop (c := theLoop 2 p_ref15_Reduce_c) (OkAll.nil) (by kernel_rfl) (fun x => by kernel_rfl) (fun β x kn ke => by kernel_rfl)
abbrev p_ref15_Reduce_ks : List Kd := [.xs (.int .i32) 256]
abbrev p_ref15_Reduce_rs : List Kd := [.xs (.int .i32) 256]
noncomputable def p_ref15_Reduce (N : Nat) (x : List Int × Unit) : Option (List Int) :=
  iter (p_ref15_Reduce_l2_F N) N ((0:Int), x.1, (List.replicate 256 0), ()) fun y2 => (
  some y2.1)
theorem p_ref15_Reduce_eq (N : Nat) (x : Ds [.xs (.int .i32) 256]) : funL p_ref15_Reduce_E p_ref15_Reduce_H (p_ref15_Reduce_l2_L N) N Go.Proofs.Try.f40 p_ref15_Reduce_c [.xs (.int .i32) 256] [.xs (.int .i32) 256] x = p_ref15_Reduce N x := by kernel_rfl
theorem p_ref15_Reduce_Eok (he_ref15_mod : SigOk Go.Proofs.Try.prog 66 ⟨[.int .i64], [.int .i64], g_ref15_mod⟩) : p_ref15_Reduce_E.Ok Go.Proofs.Try.prog := AE.of_ok (all_cons ty2_ok (all_cons ty21_ok (all_cons ty23_ok all_nil))) (all_cons ⟨he_ref15_mod, enters_ref15_mod⟩ all_nil)
theorem p_ref15_Reduce_ok (he_ref15_mod : SigOk Go.Proofs.Try.prog 66 ⟨[.int .i64], [.int .i64], g_ref15_mod⟩) {g : Ds [.xs (.int .i32) 256] → Option (Rs [.xs (.int .i32) 256])} (hg : ∀ x r, g x = some r → ∃ N, p_ref15_Reduce N x = some r) : SigOk Go.Proofs.Try.prog 40 ⟨[.xs (.int .i32) 256], [.xs (.int .i32) 256], g⟩ :=
  fun_of (E := p_ref15_Reduce_E) (H := p_ref15_Reduce_H) (L := fun N => p_ref15_Reduce_l2_L N) (c := p_ref15_Reduce_c) (ks := p_ref15_Reduce_ks) (rs := p_ref15_Reduce_rs) (F := p_ref15_Reduce) (p_ref15_Reduce_Eok he_ref15_mod) mix Go.Proofs.Try.func40 (by kernel_rfl) (fun N => p_ref15_Reduce_l2_ok N) p_ref15_Reduce_eq hg

/-! livery/liverylaw15.live -/
noncomputable def p_law15_live_E : AE := AE.of [(21, ty21), (23, ty23)] [(15, ⟨[.xs (.int .i32) 256], [.xs (.int .i32) 256, .xs (.int .i32) 256], g_dring_Decompose⟩), (13, ⟨[.xs (.int .i32) 256], [.xs (.int .i32) 256, .xs (.int .i32) 256], g_dring_Power2Round⟩)]
noncomputable def p_law15_live_H : Hints := [(3000000, [0])]
noncomputable def p_law15_live_c : Code := (Go.Proofs.Try.f17).body.getD .skip
abbrev p_law15_live_ks : List Kd := []
abbrev p_law15_live_rs : List Kd := [.bool]
noncomputable def p_law15_live (N : Nat) (x : Unit) : Option (Bool) :=
  (g_dring_Decompose ((List.set (List.replicate 256 0) 0 (8380416:Int)), ())).bind fun r1 => (
  (g_dring_Power2Round ((List.set (List.replicate 256 0) 0 (4097:Int)), ())).bind fun r2 => (
  if ((List.getD r1.1 0 0) = (0:Int)) then
    if ((List.getD r1.2 0 0) = (-1:Int)) then
      if ((List.getD r2.1 0 0) = (1:Int)) then
        some (decide ((List.getD r2.2 0 0) = (-4095:Int)))
      else
        some false
    else
      some false
  else
    some false))
theorem p_law15_live_eq (N : Nat) (x : Ds []) : funL p_law15_live_E p_law15_live_H (LT.nil) N Go.Proofs.Try.f17 p_law15_live_c [] [.bool] x = p_law15_live N x := by kernel_rfl
theorem p_law15_live_Eok (he_dring_Decompose : SigOk Go.Proofs.Try.prog 15 ⟨[.xs (.int .i32) 256], [.xs (.int .i32) 256, .xs (.int .i32) 256], g_dring_Decompose⟩) (he_dring_Power2Round : SigOk Go.Proofs.Try.prog 13 ⟨[.xs (.int .i32) 256], [.xs (.int .i32) 256, .xs (.int .i32) 256], g_dring_Power2Round⟩) : p_law15_live_E.Ok Go.Proofs.Try.prog := AE.of_ok (all_cons ty21_ok (all_cons ty23_ok all_nil)) (all_cons ⟨he_dring_Decompose, enters_dring_Decompose⟩ (all_cons ⟨he_dring_Power2Round, enters_dring_Power2Round⟩ all_nil))
theorem p_law15_live_ok (he_dring_Decompose : SigOk Go.Proofs.Try.prog 15 ⟨[.xs (.int .i32) 256], [.xs (.int .i32) 256, .xs (.int .i32) 256], g_dring_Decompose⟩) (he_dring_Power2Round : SigOk Go.Proofs.Try.prog 13 ⟨[.xs (.int .i32) 256], [.xs (.int .i32) 256, .xs (.int .i32) 256], g_dring_Power2Round⟩) {g : Ds [] → Option (Rs [.bool])} (hg : ∀ x r, g x = some r → ∃ N, p_law15_live N x = some r) : SigOk Go.Proofs.Try.prog 17 ⟨[], [.bool], g⟩ :=
  fun_of (E := p_law15_live_E) (H := p_law15_live_H) (L := fun N => LT.nil) (c := p_law15_live_c) (ks := p_law15_live_ks) (rs := p_law15_live_rs) (F := p_law15_live) (p_law15_live_Eok he_dring_Decompose he_dring_Power2Round) mix Go.Proofs.Try.func17 (by kernel_rfl) (fun N => OkAll.nil) p_law15_live_eq hg
end Go.Ax.TryP
