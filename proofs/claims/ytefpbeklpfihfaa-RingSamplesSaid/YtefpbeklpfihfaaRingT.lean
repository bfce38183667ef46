/- A part of the proof: RingT. -/
import Derived.Test.YtefpbeklpfihfaaAxC
import Derived.Test.YtefpbeklpfihfaaProg
/-! Printed by program (gen.py). -/
set_option linter.unusedVariables false
namespace Go.Ax.TryP
theorem mix : Go.Proofs.Try.prog.follows .mixedOrders = true := by kernel_rfl
noncomputable def ty2 : TyI where
  td := .int .i64
  size := 1
  bytes := 8
  zero := [.xs (.int .i64) 1 [0]]
theorem ty2_ok : TyOk Go.Proofs.Try.prog 2 ty2 :=
  TyOk.of (z := (Go.Proofs.Try.t2.zero).getD .nilIface) (cs := (zeroS ty2.zero).getD []) Go.Proofs.Try.underlying2 Go.Proofs.Try.type2 (by kernel_rfl) ⟨by kernel_rfl, by kernel_rfl⟩ (by kernel_rfl) (by kernel_rfl) (by kernel_rfl) (by kernel_rfl) (by kernel_rfl)
noncomputable def ty3 : TyI where
  td := .int .i64
  size := 1
  bytes := 8
  zero := [.xs (.int .i64) 1 [0]]
theorem ty3_ok : TyOk Go.Proofs.Try.prog 3 ty3 :=
  TyOk.of (z := (Go.Proofs.Try.t3.zero).getD .nilIface) (cs := (zeroS ty3.zero).getD []) Go.Proofs.Try.underlying3 Go.Proofs.Try.type3 (by kernel_rfl) ⟨by kernel_rfl, by kernel_rfl⟩ (by kernel_rfl) (by kernel_rfl) (by kernel_rfl) (by kernel_rfl) (by kernel_rfl)
noncomputable def ty4 : TyI where
  td := .bool
  size := 1
  bytes := 1
  zero := [.xs .bool 1 [0]]
theorem ty4_ok : TyOk Go.Proofs.Try.prog 4 ty4 :=
  TyOk.of (z := (Go.Proofs.Try.t4.zero).getD .nilIface) (cs := (zeroS ty4.zero).getD []) Go.Proofs.Try.underlying4 Go.Proofs.Try.type4 (by kernel_rfl) ⟨by kernel_rfl, by kernel_rfl⟩ (by kernel_rfl) (by kernel_rfl) (by kernel_rfl) (by kernel_rfl) (by kernel_rfl)
noncomputable def ty5 : TyI where
  td := .int .u8
  size := 1
  bytes := 1
  zero := [.xs (.int .u8) 1 [0]]
theorem ty5_ok : TyOk Go.Proofs.Try.prog 5 ty5 :=
  TyOk.of (z := (Go.Proofs.Try.t5.zero).getD .nilIface) (cs := (zeroS ty5.zero).getD []) Go.Proofs.Try.underlying5 Go.Proofs.Try.type5 (by kernel_rfl) ⟨by kernel_rfl, by kernel_rfl⟩ (by kernel_rfl) (by kernel_rfl) (by kernel_rfl) (by kernel_rfl) (by kernel_rfl)
noncomputable def ty6 : TyI where
  td := .int .u8
  size := 1
  bytes := 1
  zero := [.xs (.int .u8) 1 [0]]
theorem ty6_ok : TyOk Go.Proofs.Try.prog 6 ty6 :=
  TyOk.of (z := (Go.Proofs.Try.t6.zero).getD .nilIface) (cs := (zeroS ty6.zero).getD []) Go.Proofs.Try.underlying6 Go.Proofs.Try.type6 (by kernel_rfl) ⟨by kernel_rfl, by kernel_rfl⟩ (by kernel_rfl) (by kernel_rfl) (by kernel_rfl) (by kernel_rfl) (by kernel_rfl)
noncomputable def ty9 : TyI where
  td := .str
  size := 1
  bytes := 16
  zero := [.one (.str (⟨#[]⟩ : ByteArray))]
theorem ty9_ok : TyOk Go.Proofs.Try.prog 9 ty9 :=
  TyOk.of (z := (Go.Proofs.Try.t9.zero).getD .nilIface) (cs := (zeroS ty9.zero).getD []) Go.Proofs.Try.underlying9 Go.Proofs.Try.type9 (by kernel_rfl) ⟨by kernel_rfl, by kernel_rfl⟩ (by kernel_rfl) (by kernel_rfl) (by kernel_rfl) (by kernel_rfl) (by kernel_rfl)
noncomputable def ty10 : TyI where
  td := .str
  size := 1
  bytes := 16
  zero := [.one (.str (⟨#[]⟩ : ByteArray))]
theorem ty10_ok : TyOk Go.Proofs.Try.prog 10 ty10 :=
  TyOk.of (z := (Go.Proofs.Try.t10.zero).getD .nilIface) (cs := (zeroS ty10.zero).getD []) Go.Proofs.Try.underlying10 Go.Proofs.Try.type10 (by kernel_rfl) ⟨by kernel_rfl, by kernel_rfl⟩ (by kernel_rfl) (by kernel_rfl) (by kernel_rfl) (by kernel_rfl) (by kernel_rfl)
noncomputable def ty11 : TyI where
  td := .str
  size := 1
  bytes := 16
  zero := [.one (.str (⟨#[]⟩ : ByteArray))]
theorem ty11_ok : TyOk Go.Proofs.Try.prog 11 ty11 :=
  TyOk.of (z := (Go.Proofs.Try.t11.zero).getD .nilIface) (cs := (zeroS ty11.zero).getD []) Go.Proofs.Try.underlying11 Go.Proofs.Try.type11 (by kernel_rfl) ⟨by kernel_rfl, by kernel_rfl⟩ (by kernel_rfl) (by kernel_rfl) (by kernel_rfl) (by kernel_rfl) (by kernel_rfl)
noncomputable def ty12 : TyI where
  td := .int .u64
  size := 1
  bytes := 8
  zero := [.xs (.int .u64) 1 [0]]
theorem ty12_ok : TyOk Go.Proofs.Try.prog 12 ty12 :=
  TyOk.of (z := (Go.Proofs.Try.t12.zero).getD .nilIface) (cs := (zeroS ty12.zero).getD []) Go.Proofs.Try.underlying12 Go.Proofs.Try.type12 (by kernel_rfl) ⟨by kernel_rfl, by kernel_rfl⟩ (by kernel_rfl) (by kernel_rfl) (by kernel_rfl) (by kernel_rfl) (by kernel_rfl)
noncomputable def ty15 : TyI where
  td := .ptr 95
  size := 1
  bytes := 8
  zero := [.one (.nilp)]
theorem ty15_ok : TyOk Go.Proofs.Try.prog 15 ty15 :=
  TyOk.of (z := (Go.Proofs.Try.t15.zero).getD .nilIface) (cs := (zeroS ty15.zero).getD []) Go.Proofs.Try.underlying15 Go.Proofs.Try.type15 (by kernel_rfl) ⟨by kernel_rfl, by kernel_rfl⟩ (by kernel_rfl) (by kernel_rfl) (by kernel_rfl) (by kernel_rfl) (by kernel_rfl)
noncomputable def ty16 : TyI where
  td := .ptr 98
  size := 1
  bytes := 8
  zero := [.one (.nilp)]
theorem ty16_ok : TyOk Go.Proofs.Try.prog 16 ty16 :=
  TyOk.of (z := (Go.Proofs.Try.t16.zero).getD .nilIface) (cs := (zeroS ty16.zero).getD []) Go.Proofs.Try.underlying16 Go.Proofs.Try.type16 (by kernel_rfl) ⟨by kernel_rfl, by kernel_rfl⟩ (by kernel_rfl) (by kernel_rfl) (by kernel_rfl) (by kernel_rfl) (by kernel_rfl)
noncomputable def ty17 : TyI where
  td := .ptr 107
  size := 1
  bytes := 8
  zero := [.one (.nilp)]
theorem ty17_ok : TyOk Go.Proofs.Try.prog 17 ty17 :=
  TyOk.of (z := (Go.Proofs.Try.t17.zero).getD .nilIface) (cs := (zeroS ty17.zero).getD []) Go.Proofs.Try.underlying17 Go.Proofs.Try.type17 (by kernel_rfl) ⟨by kernel_rfl, by kernel_rfl⟩ (by kernel_rfl) (by kernel_rfl) (by kernel_rfl) (by kernel_rfl) (by kernel_rfl)
noncomputable def ty21 : TyI where
  td := .int .i32
  size := 1
  bytes := 4
  zero := [.xs (.int .i32) 1 [0]]
theorem ty21_ok : TyOk Go.Proofs.Try.prog 21 ty21 :=
  TyOk.of (z := (Go.Proofs.Try.t21.zero).getD .nilIface) (cs := (zeroS ty21.zero).getD []) Go.Proofs.Try.underlying21 Go.Proofs.Try.type21 (by kernel_rfl) ⟨by kernel_rfl, by kernel_rfl⟩ (by kernel_rfl) (by kernel_rfl) (by kernel_rfl) (by kernel_rfl) (by kernel_rfl)
noncomputable def ty22 : TyI where
  td := .int .u16
  size := 1
  bytes := 2
  zero := [.xs (.int .u16) 1 [0]]
theorem ty22_ok : TyOk Go.Proofs.Try.prog 22 ty22 :=
  TyOk.of (z := (Go.Proofs.Try.t22.zero).getD .nilIface) (cs := (zeroS ty22.zero).getD []) Go.Proofs.Try.underlying22 Go.Proofs.Try.type22 (by kernel_rfl) ⟨by kernel_rfl, by kernel_rfl⟩ (by kernel_rfl) (by kernel_rfl) (by kernel_rfl) (by kernel_rfl) (by kernel_rfl)
noncomputable def ty23 : TyI where
  td := .arr 256 22
  size := 256
  bytes := 512
  zero := [.xs (.int .u16) 256 (List.replicate 256 0)]
theorem ty23_ok : TyOk Go.Proofs.Try.prog 23 ty23 :=
  TyOk.of (z := (Go.Proofs.Try.t23.zero).getD .nilIface) (cs := (zeroS ty23.zero).getD []) Go.Proofs.Try.underlying23 Go.Proofs.Try.type23 (by kernel_rfl) ⟨by kernel_rfl, by kernel_rfl⟩ (by kernel_rfl) (by kernel_rfl) (by kernel_rfl) (by kernel_rfl) (by kernel_rfl)
noncomputable def ty24 : TyI where
  td := .arr 256 22
  size := 256
  bytes := 512
  zero := [.xs (.int .u16) 256 (List.replicate 256 0)]
theorem ty24_ok : TyOk Go.Proofs.Try.prog 24 ty24 :=
  TyOk.of (z := (Go.Proofs.Try.t24.zero).getD .nilIface) (cs := (zeroS ty24.zero).getD []) Go.Proofs.Try.underlying24 Go.Proofs.Try.type24 (by kernel_rfl) ⟨by kernel_rfl, by kernel_rfl⟩ (by kernel_rfl) (by kernel_rfl) (by kernel_rfl) (by kernel_rfl) (by kernel_rfl)
noncomputable def ty25 : TyI where
  td := .int .i64
  size := 1
  bytes := 8
  zero := [.xs (.int .i64) 1 [0]]
theorem ty25_ok : TyOk Go.Proofs.Try.prog 25 ty25 :=
  TyOk.of (z := (Go.Proofs.Try.t25.zero).getD .nilIface) (cs := (zeroS ty25.zero).getD []) Go.Proofs.Try.underlying25 Go.Proofs.Try.type25 (by kernel_rfl) ⟨by kernel_rfl, by kernel_rfl⟩ (by kernel_rfl) (by kernel_rfl) (by kernel_rfl) (by kernel_rfl) (by kernel_rfl)
noncomputable def ty31 : TyI where
  td := .int .u64
  size := 1
  bytes := 8
  zero := [.xs (.int .u64) 1 [0]]
theorem ty31_ok : TyOk Go.Proofs.Try.prog 31 ty31 :=
  TyOk.of (z := (Go.Proofs.Try.t31.zero).getD .nilIface) (cs := (zeroS ty31.zero).getD []) Go.Proofs.Try.underlying31 Go.Proofs.Try.type31 (by kernel_rfl) ⟨by kernel_rfl, by kernel_rfl⟩ (by kernel_rfl) (by kernel_rfl) (by kernel_rfl) (by kernel_rfl) (by kernel_rfl)
noncomputable def ty34 : TyI where
  td := .sl 5
  size := 1
  bytes := 24
  zero := [.one (.nilsl)]
theorem ty34_ok : TyOk Go.Proofs.Try.prog 34 ty34 :=
  TyOk.of (z := (Go.Proofs.Try.t34.zero).getD .nilIface) (cs := (zeroS ty34.zero).getD []) Go.Proofs.Try.underlying34 Go.Proofs.Try.type34 (by kernel_rfl) ⟨by kernel_rfl, by kernel_rfl⟩ (by kernel_rfl) (by kernel_rfl) (by kernel_rfl) (by kernel_rfl) (by kernel_rfl)
noncomputable def ty46 : TyI where
  td := .int .u32
  size := 1
  bytes := 4
  zero := [.xs (.int .u32) 1 [0]]
theorem ty46_ok : TyOk Go.Proofs.Try.prog 46 ty46 :=
  TyOk.of (z := (Go.Proofs.Try.t46.zero).getD .nilIface) (cs := (zeroS ty46.zero).getD []) Go.Proofs.Try.underlying46 Go.Proofs.Try.type46 (by kernel_rfl) ⟨by kernel_rfl, by kernel_rfl⟩ (by kernel_rfl) (by kernel_rfl) (by kernel_rfl) (by kernel_rfl) (by kernel_rfl)
noncomputable def ty48 : TyI where
  td := .arr 128 22
  size := 128
  bytes := 256
  zero := [.xs (.int .u16) 128 (List.replicate 128 0)]
theorem ty48_ok : TyOk Go.Proofs.Try.prog 48 ty48 :=
  TyOk.of (z := (Go.Proofs.Try.t48.zero).getD .nilIface) (cs := (zeroS ty48.zero).getD []) Go.Proofs.Try.underlying48 Go.Proofs.Try.type48 (by kernel_rfl) ⟨by kernel_rfl, by kernel_rfl⟩ (by kernel_rfl) (by kernel_rfl) (by kernel_rfl) (by kernel_rfl) (by kernel_rfl)
noncomputable def ty52 : TyI where
  td := .sl 4
  size := 1
  bytes := 24
  zero := [.one (.nilsl)]
theorem ty52_ok : TyOk Go.Proofs.Try.prog 52 ty52 :=
  TyOk.of (z := (Go.Proofs.Try.t52.zero).getD .nilIface) (cs := (zeroS ty52.zero).getD []) Go.Proofs.Try.underlying52 Go.Proofs.Try.type52 (by kernel_rfl) ⟨by kernel_rfl, by kernel_rfl⟩ (by kernel_rfl) (by kernel_rfl) (by kernel_rfl) (by kernel_rfl) (by kernel_rfl)
noncomputable def ty54 : TyI where
  td := .arr 128 3
  size := 128
  bytes := 1024
  zero := [.xs (.int .i64) 128 (List.replicate 128 0)]
theorem ty54_ok : TyOk Go.Proofs.Try.prog 54 ty54 :=
  TyOk.of (z := (Go.Proofs.Try.t54.zero).getD .nilIface) (cs := (zeroS ty54.zero).getD []) Go.Proofs.Try.underlying54 Go.Proofs.Try.type54 (by kernel_rfl) ⟨by kernel_rfl, by kernel_rfl⟩ (by kernel_rfl) (by kernel_rfl) (by kernel_rfl) (by kernel_rfl) (by kernel_rfl)
noncomputable def ty58 : TyI where
  td := .sl 3
  size := 1
  bytes := 24
  zero := [.one (.nilsl)]
theorem ty58_ok : TyOk Go.Proofs.Try.prog 58 ty58 :=
  TyOk.of (z := (Go.Proofs.Try.t58.zero).getD .nilIface) (cs := (zeroS ty58.zero).getD []) Go.Proofs.Try.underlying58 Go.Proofs.Try.type58 (by kernel_rfl) ⟨by kernel_rfl, by kernel_rfl⟩ (by kernel_rfl) (by kernel_rfl) (by kernel_rfl) (by kernel_rfl) (by kernel_rfl)
noncomputable def ty60 : TyI where
  td := .arr 512 3
  size := 512
  bytes := 4096
  zero := [.xs (.int .i64) 512 (List.replicate 512 0)]
theorem ty60_ok : TyOk Go.Proofs.Try.prog 60 ty60 :=
  TyOk.of (z := (Go.Proofs.Try.t60.zero).getD .nilIface) (cs := (zeroS ty60.zero).getD []) Go.Proofs.Try.underlying60 Go.Proofs.Try.type60 (by kernel_rfl) ⟨by kernel_rfl, by kernel_rfl⟩ (by kernel_rfl) (by kernel_rfl) (by kernel_rfl) (by kernel_rfl) (by kernel_rfl)
noncomputable def ty61 : TyI where
  td := .ptr 75
  size := 1
  bytes := 8
  zero := [.one (.nilp)]
theorem ty61_ok : TyOk Go.Proofs.Try.prog 61 ty61 :=
  TyOk.of (z := (Go.Proofs.Try.t61.zero).getD .nilIface) (cs := (zeroS ty61.zero).getD []) Go.Proofs.Try.underlying61 Go.Proofs.Try.type61 (by kernel_rfl) ⟨by kernel_rfl, by kernel_rfl⟩ (by kernel_rfl) (by kernel_rfl) (by kernel_rfl) (by kernel_rfl) (by kernel_rfl)
noncomputable def ty64 : TyI where
  td := .arr 2 22
  size := 2
  bytes := 4
  zero := [.xs (.int .u16) 2 (List.replicate 2 0)]
theorem ty64_ok : TyOk Go.Proofs.Try.prog 64 ty64 :=
  TyOk.of (z := (Go.Proofs.Try.t64.zero).getD .nilIface) (cs := (zeroS ty64.zero).getD []) Go.Proofs.Try.underlying64 Go.Proofs.Try.type64 (by kernel_rfl) ⟨by kernel_rfl, by kernel_rfl⟩ (by kernel_rfl) (by kernel_rfl) (by kernel_rfl) (by kernel_rfl) (by kernel_rfl)
noncomputable def ty67 : TyI where
  td := .sl 34
  size := 1
  bytes := 24
  zero := [.one (.nilsl)]
theorem ty67_ok : TyOk Go.Proofs.Try.prog 67 ty67 :=
  TyOk.of (z := (Go.Proofs.Try.t67.zero).getD .nilIface) (cs := (zeroS ty67.zero).getD []) Go.Proofs.Try.underlying67 Go.Proofs.Try.type67 (by kernel_rfl) ⟨by kernel_rfl, by kernel_rfl⟩ (by kernel_rfl) (by kernel_rfl) (by kernel_rfl) (by kernel_rfl) (by kernel_rfl)
noncomputable def ty70 : TyI where
  td := .int .u64
  size := 1
  bytes := 8
  zero := [.xs (.int .u64) 1 [0]]
theorem ty70_ok : TyOk Go.Proofs.Try.prog 70 ty70 :=
  TyOk.of (z := (Go.Proofs.Try.t70.zero).getD .nilIface) (cs := (zeroS ty70.zero).getD []) Go.Proofs.Try.underlying70 Go.Proofs.Try.type70 (by kernel_rfl) ⟨by kernel_rfl, by kernel_rfl⟩ (by kernel_rfl) (by kernel_rfl) (by kernel_rfl) (by kernel_rfl) (by kernel_rfl)
noncomputable def ty71 : TyI where
  td := .arr 25 70
  size := 25
  bytes := 200
  zero := [.xs (.int .u64) 25 (List.replicate 25 0)]
theorem ty71_ok : TyOk Go.Proofs.Try.prog 71 ty71 :=
  TyOk.of (z := (Go.Proofs.Try.t71.zero).getD .nilIface) (cs := (zeroS ty71.zero).getD []) Go.Proofs.Try.underlying71 Go.Proofs.Try.type71 (by kernel_rfl) ⟨by kernel_rfl, by kernel_rfl⟩ (by kernel_rfl) (by kernel_rfl) (by kernel_rfl) (by kernel_rfl) (by kernel_rfl)
noncomputable def ty79 : TyI where
  td := .ptr 73
  size := 1
  bytes := 8
  zero := [.one (.nilp)]
theorem ty79_ok : TyOk Go.Proofs.Try.prog 79 ty79 :=
  TyOk.of (z := (Go.Proofs.Try.t79.zero).getD .nilIface) (cs := (zeroS ty79.zero).getD []) Go.Proofs.Try.underlying79 Go.Proofs.Try.type79 (by kernel_rfl) ⟨by kernel_rfl, by kernel_rfl⟩ (by kernel_rfl) (by kernel_rfl) (by kernel_rfl) (by kernel_rfl) (by kernel_rfl)
noncomputable def ty84 : TyI where
  td := .arr 25 3
  size := 25
  bytes := 200
  zero := [.xs (.int .i64) 25 (List.replicate 25 0)]
theorem ty84_ok : TyOk Go.Proofs.Try.prog 84 ty84 :=
  TyOk.of (z := (Go.Proofs.Try.t84.zero).getD .nilIface) (cs := (zeroS ty84.zero).getD []) Go.Proofs.Try.underlying84 Go.Proofs.Try.type84 (by kernel_rfl) ⟨by kernel_rfl, by kernel_rfl⟩ (by kernel_rfl) (by kernel_rfl) (by kernel_rfl) (by kernel_rfl) (by kernel_rfl)
noncomputable def ty86 : TyI where
  td := .arr 24 70
  size := 24
  bytes := 192
  zero := [.xs (.int .u64) 24 (List.replicate 24 0)]
theorem ty86_ok : TyOk Go.Proofs.Try.prog 86 ty86 :=
  TyOk.of (z := (Go.Proofs.Try.t86.zero).getD .nilIface) (cs := (zeroS ty86.zero).getD []) Go.Proofs.Try.underlying86 Go.Proofs.Try.type86 (by kernel_rfl) ⟨by kernel_rfl, by kernel_rfl⟩ (by kernel_rfl) (by kernel_rfl) (by kernel_rfl) (by kernel_rfl) (by kernel_rfl)
noncomputable def ty89 : TyI where
  td := .ptr 84
  size := 1
  bytes := 8
  zero := [.one (.nilp)]
theorem ty89_ok : TyOk Go.Proofs.Try.prog 89 ty89 :=
  TyOk.of (z := (Go.Proofs.Try.t89.zero).getD .nilIface) (cs := (zeroS ty89.zero).getD []) Go.Proofs.Try.underlying89 Go.Proofs.Try.type89 (by kernel_rfl) ⟨by kernel_rfl, by kernel_rfl⟩ (by kernel_rfl) (by kernel_rfl) (by kernel_rfl) (by kernel_rfl) (by kernel_rfl)
noncomputable def ty91 : TyI where
  td := .arr 5 70
  size := 5
  bytes := 40
  zero := [.xs (.int .u64) 5 (List.replicate 5 0)]
theorem ty91_ok : TyOk Go.Proofs.Try.prog 91 ty91 :=
  TyOk.of (z := (Go.Proofs.Try.t91.zero).getD .nilIface) (cs := (zeroS ty91.zero).getD []) Go.Proofs.Try.underlying91 Go.Proofs.Try.type91 (by kernel_rfl) ⟨by kernel_rfl, by kernel_rfl⟩ (by kernel_rfl) (by kernel_rfl) (by kernel_rfl) (by kernel_rfl) (by kernel_rfl)
noncomputable def ty96 : TyI where
  td := .arr 0 16
  size := 0
  bytes := 0
  zero := []
theorem ty96_ok : TyOk Go.Proofs.Try.prog 96 ty96 :=
  TyOk.of (z := (Go.Proofs.Try.t96.zero).getD .nilIface) (cs := (zeroS ty96.zero).getD []) Go.Proofs.Try.underlying96 Go.Proofs.Try.type96 (by kernel_rfl) ⟨by kernel_rfl, by kernel_rfl⟩ (by kernel_rfl) (by kernel_rfl) (by kernel_rfl) (by kernel_rfl) (by kernel_rfl)
noncomputable def ty100 : TyI where
  td := .int .u8
  size := 1
  bytes := 1
  zero := [.xs (.int .u8) 1 [0]]
theorem ty100_ok : TyOk Go.Proofs.Try.prog 100 ty100 :=
  TyOk.of (z := (Go.Proofs.Try.t100.zero).getD .nilIface) (cs := (zeroS ty100.zero).getD []) Go.Proofs.Try.underlying100 Go.Proofs.Try.type100 (by kernel_rfl) ⟨by kernel_rfl, by kernel_rfl⟩ (by kernel_rfl) (by kernel_rfl) (by kernel_rfl) (by kernel_rfl) (by kernel_rfl)
noncomputable def ty101 : TyI where
  td := .int .u8
  size := 1
  bytes := 1
  zero := [.xs (.int .u8) 1 [0]]
theorem ty101_ok : TyOk Go.Proofs.Try.prog 101 ty101 :=
  TyOk.of (z := (Go.Proofs.Try.t101.zero).getD .nilIface) (cs := (zeroS ty101.zero).getD []) Go.Proofs.Try.underlying101 Go.Proofs.Try.type101 (by kernel_rfl) ⟨by kernel_rfl, by kernel_rfl⟩ (by kernel_rfl) (by kernel_rfl) (by kernel_rfl) (by kernel_rfl) (by kernel_rfl)
noncomputable def ty103 : TyI where
  td := .ptr 5
  size := 1
  bytes := 8
  zero := [.one (.nilp)]
theorem ty103_ok : TyOk Go.Proofs.Try.prog 103 ty103 :=
  TyOk.of (z := (Go.Proofs.Try.t103.zero).getD .nilIface) (cs := (zeroS ty103.zero).getD []) Go.Proofs.Try.underlying103 Go.Proofs.Try.type103 (by kernel_rfl) ⟨by kernel_rfl, by kernel_rfl⟩ (by kernel_rfl) (by kernel_rfl) (by kernel_rfl) (by kernel_rfl) (by kernel_rfl)
noncomputable def ty104 : TyI where
  td := .int .i32
  size := 1
  bytes := 4
  zero := [.xs (.int .i32) 1 [0]]
theorem ty104_ok : TyOk Go.Proofs.Try.prog 104 ty104 :=
  TyOk.of (z := (Go.Proofs.Try.t104.zero).getD .nilIface) (cs := (zeroS ty104.zero).getD []) Go.Proofs.Try.underlying104 Go.Proofs.Try.type104 (by kernel_rfl) ⟨by kernel_rfl, by kernel_rfl⟩ (by kernel_rfl) (by kernel_rfl) (by kernel_rfl) (by kernel_rfl) (by kernel_rfl)
noncomputable def ty105 : TyI where
  td := .int .i32
  size := 1
  bytes := 4
  zero := [.xs (.int .i32) 1 [0]]
theorem ty105_ok : TyOk Go.Proofs.Try.prog 105 ty105 :=
  TyOk.of (z := (Go.Proofs.Try.t105.zero).getD .nilIface) (cs := (zeroS ty105.zero).getD []) Go.Proofs.Try.underlying105 Go.Proofs.Try.type105 (by kernel_rfl) ⟨by kernel_rfl, by kernel_rfl⟩ (by kernel_rfl) (by kernel_rfl) (by kernel_rfl) (by kernel_rfl) (by kernel_rfl)
theorem enters_law13_RingCompresses : Enters Go.Proofs.Try.prog 3 := ⟨Go.Proofs.Try.f3, Go.Proofs.Try.func3, by kernel_rfl, by kernel_rfl⟩
theorem enters_law13_RingNear : Enters Go.Proofs.Try.prog 4 := ⟨Go.Proofs.Try.f4, Go.Proofs.Try.func4, by kernel_rfl, by kernel_rfl⟩
theorem enters_law13_RingPairs : Enters Go.Proofs.Try.prog 5 := ⟨Go.Proofs.Try.f5, Go.Proofs.Try.func5, by kernel_rfl, by kernel_rfl⟩
theorem enters_law13_RingCbds : Enters Go.Proofs.Try.prog 6 := ⟨Go.Proofs.Try.f6, Go.Proofs.Try.func6, by kernel_rfl, by kernel_rfl⟩
theorem enters_law13_RingNtts : Enters Go.Proofs.Try.prog 7 := ⟨Go.Proofs.Try.f7, Go.Proofs.Try.func7, by kernel_rfl, by kernel_rfl⟩
theorem enters_law13_RingTurns : Enters Go.Proofs.Try.prog 8 := ⟨Go.Proofs.Try.f8, Go.Proofs.Try.func8, by kernel_rfl, by kernel_rfl⟩
theorem enters_law13_RingCodes : Enters Go.Proofs.Try.prog 9 := ⟨Go.Proofs.Try.f9, Go.Proofs.Try.func9, by kernel_rfl, by kernel_rfl⟩
theorem enters_law13_RingSums : Enters Go.Proofs.Try.prog 10 := ⟨Go.Proofs.Try.f10, Go.Proofs.Try.func10, by kernel_rfl, by kernel_rfl⟩
theorem enters_law13_RingLaws : Enters Go.Proofs.Try.prog 11 := ⟨Go.Proofs.Try.f11, Go.Proofs.Try.func11, by kernel_rfl, by kernel_rfl⟩
theorem enters_law13_RingBack : Enters Go.Proofs.Try.prog 12 := ⟨Go.Proofs.Try.f12, Go.Proofs.Try.func12, by kernel_rfl, by kernel_rfl⟩
theorem enters_law13_RingSamples : Enters Go.Proofs.Try.prog 13 := ⟨Go.Proofs.Try.f13, Go.Proofs.Try.func13, by kernel_rfl, by kernel_rfl⟩
theorem enters_ring_Compress : Enters Go.Proofs.Try.prog 14 := ⟨Go.Proofs.Try.f14, Go.Proofs.Try.func14, by kernel_rfl, by kernel_rfl⟩
theorem enters_ref13_Compress : Enters Go.Proofs.Try.prog 15 := ⟨Go.Proofs.Try.f15, Go.Proofs.Try.func15, by kernel_rfl, by kernel_rfl⟩
theorem enters_ring_Decompress : Enters Go.Proofs.Try.prog 16 := ⟨Go.Proofs.Try.f16, Go.Proofs.Try.func16, by kernel_rfl, by kernel_rfl⟩
theorem enters_ref13_Decompress : Enters Go.Proofs.Try.prog 17 := ⟨Go.Proofs.Try.f17, Go.Proofs.Try.func17, by kernel_rfl, by kernel_rfl⟩
theorem enters_law13_live : Enters Go.Proofs.Try.prog 18 := ⟨Go.Proofs.Try.f18, Go.Proofs.Try.func18, by kernel_rfl, by kernel_rfl⟩
theorem enters_ref13_Near : Enters Go.Proofs.Try.prog 19 := ⟨Go.Proofs.Try.f19, Go.Proofs.Try.func19, by kernel_rfl, by kernel_rfl⟩
theorem enters_ring_MulNtt : Enters Go.Proofs.Try.prog 20 := ⟨Go.Proofs.Try.f20, Go.Proofs.Try.func20, by kernel_rfl, by kernel_rfl⟩
theorem enters_ref13_MulNtt : Enters Go.Proofs.Try.prog 21 := ⟨Go.Proofs.Try.f21, Go.Proofs.Try.func21, by kernel_rfl, by kernel_rfl⟩
theorem enters_ring_Cbd : Enters Go.Proofs.Try.prog 22 := ⟨Go.Proofs.Try.f22, Go.Proofs.Try.func22, by kernel_rfl, by kernel_rfl⟩
theorem enters_ref13_Cbd : Enters Go.Proofs.Try.prog 23 := ⟨Go.Proofs.Try.f23, Go.Proofs.Try.func23, by kernel_rfl, by kernel_rfl⟩
theorem enters_ring_Ntt : Enters Go.Proofs.Try.prog 24 := ⟨Go.Proofs.Try.f24, Go.Proofs.Try.func24, by kernel_rfl, by kernel_rfl⟩
theorem enters_ref13_Ntt : Enters Go.Proofs.Try.prog 25 := ⟨Go.Proofs.Try.f25, Go.Proofs.Try.func25, by kernel_rfl, by kernel_rfl⟩
theorem enters_ring_Inv : Enters Go.Proofs.Try.prog 26 := ⟨Go.Proofs.Try.f26, Go.Proofs.Try.func26, by kernel_rfl, by kernel_rfl⟩
theorem enters_ref13_Inv : Enters Go.Proofs.Try.prog 27 := ⟨Go.Proofs.Try.f27, Go.Proofs.Try.func27, by kernel_rfl, by kernel_rfl⟩
theorem enters_ring_Mul : Enters Go.Proofs.Try.prog 28 := ⟨Go.Proofs.Try.f28, Go.Proofs.Try.func28, by kernel_rfl, by kernel_rfl⟩
theorem enters_ring_Add : Enters Go.Proofs.Try.prog 29 := ⟨Go.Proofs.Try.f29, Go.Proofs.Try.func29, by kernel_rfl, by kernel_rfl⟩
theorem enters_ring_Encode : Enters Go.Proofs.Try.prog 30 := ⟨Go.Proofs.Try.f30, Go.Proofs.Try.func30, by kernel_rfl, by kernel_rfl⟩
theorem enters_ref13_Encode : Enters Go.Proofs.Try.prog 31 := ⟨Go.Proofs.Try.f31, Go.Proofs.Try.func31, by kernel_rfl, by kernel_rfl⟩
theorem enters_ring_Decode : Enters Go.Proofs.Try.prog 32 := ⟨Go.Proofs.Try.f32, Go.Proofs.Try.func32, by kernel_rfl, by kernel_rfl⟩
theorem enters_ref13_Decode : Enters Go.Proofs.Try.prog 33 := ⟨Go.Proofs.Try.f33, Go.Proofs.Try.func33, by kernel_rfl, by kernel_rfl⟩
theorem enters_ref01_Equal : Enters Go.Proofs.Try.prog 34 := ⟨Go.Proofs.Try.f34, Go.Proofs.Try.func34, by kernel_rfl, by kernel_rfl⟩
theorem enters_ring_Canon : Enters Go.Proofs.Try.prog 35 := ⟨Go.Proofs.Try.f35, Go.Proofs.Try.func35, by kernel_rfl, by kernel_rfl⟩
theorem enters_ref13_Canon : Enters Go.Proofs.Try.prog 36 := ⟨Go.Proofs.Try.f36, Go.Proofs.Try.func36, by kernel_rfl, by kernel_rfl⟩
theorem enters_ring_Reduce : Enters Go.Proofs.Try.prog 37 := ⟨Go.Proofs.Try.f37, Go.Proofs.Try.func37, by kernel_rfl, by kernel_rfl⟩
theorem enters_ref13_Reduce : Enters Go.Proofs.Try.prog 38 := ⟨Go.Proofs.Try.f38, Go.Proofs.Try.func38, by kernel_rfl, by kernel_rfl⟩
theorem enters_ref13_Add : Enters Go.Proofs.Try.prog 39 := ⟨Go.Proofs.Try.f39, Go.Proofs.Try.func39, by kernel_rfl, by kernel_rfl⟩
theorem enters_ring_Sub : Enters Go.Proofs.Try.prog 40 := ⟨Go.Proofs.Try.f40, Go.Proofs.Try.func40, by kernel_rfl, by kernel_rfl⟩
theorem enters_ref13_Sub : Enters Go.Proofs.Try.prog 41 := ⟨Go.Proofs.Try.f41, Go.Proofs.Try.func41, by kernel_rfl, by kernel_rfl⟩
theorem enters_ref13_Mul : Enters Go.Proofs.Try.prog 42 := ⟨Go.Proofs.Try.f42, Go.Proofs.Try.func42, by kernel_rfl, by kernel_rfl⟩
theorem enters_ring_SampleNtt : Enters Go.Proofs.Try.prog 43 := ⟨Go.Proofs.Try.f43, Go.Proofs.Try.func43, by kernel_rfl, by kernel_rfl⟩
theorem enters_ref13_SampleNtt : Enters Go.Proofs.Try.prog 44 := ⟨Go.Proofs.Try.f44, Go.Proofs.Try.func44, by kernel_rfl, by kernel_rfl⟩
theorem enters_ref13_width : Enters Go.Proofs.Try.prog 45 := ⟨Go.Proofs.Try.f45, Go.Proofs.Try.func45, by kernel_rfl, by kernel_rfl⟩
theorem enters_ring_powers : Enters Go.Proofs.Try.prog 46 := ⟨Go.Proofs.Try.f46, Go.Proofs.Try.func46, by kernel_rfl, by kernel_rfl⟩
theorem enters_ring_times : Enters Go.Proofs.Try.prog 47 := ⟨Go.Proofs.Try.f47, Go.Proofs.Try.func47, by kernel_rfl, by kernel_rfl⟩
theorem enters_ref13_Root : Enters Go.Proofs.Try.prog 48 := ⟨Go.Proofs.Try.f48, Go.Proofs.Try.func48, by kernel_rfl, by kernel_rfl⟩
theorem enters_ring_Cbd_1 : Enters Go.Proofs.Try.prog 49 := ⟨Go.Proofs.Try.f49, Go.Proofs.Try.func49, by kernel_rfl, by kernel_rfl⟩
theorem enters_ref01_Bits : Enters Go.Proofs.Try.prog 50 := ⟨Go.Proofs.Try.f50, Go.Proofs.Try.func50, by kernel_rfl, by kernel_rfl⟩
theorem enters_ref13_power : Enters Go.Proofs.Try.prog 51 := ⟨Go.Proofs.Try.f51, Go.Proofs.Try.func51, by kernel_rfl, by kernel_rfl⟩
theorem enters_ref01_FromBits : Enters Go.Proofs.Try.prog 52 := ⟨Go.Proofs.Try.f52, Go.Proofs.Try.func52, by kernel_rfl, by kernel_rfl⟩
theorem enters_ring_raw : Enters Go.Proofs.Try.prog 53 := ⟨Go.Proofs.Try.f53, Go.Proofs.Try.func53, by kernel_rfl, by kernel_rfl⟩
theorem enters_ref13_numbers : Enters Go.Proofs.Try.prog 54 := ⟨Go.Proofs.Try.f54, Go.Proofs.Try.func54, by kernel_rfl, by kernel_rfl⟩
theorem enters_keccak_Shake128 : Enters Go.Proofs.Try.prog 55 := ⟨Go.Proofs.Try.f55, Go.Proofs.Try.func55, by kernel_rfl, by kernel_rfl⟩
theorem enters_keccak_Xof_Read : Enters Go.Proofs.Try.prog 56 := ⟨Go.Proofs.Try.f56, Go.Proofs.Try.func56, by kernel_rfl, by kernel_rfl⟩
theorem enters_ref03_Shake : Enters Go.Proofs.Try.prog 57 := ⟨Go.Proofs.Try.f57, Go.Proofs.Try.func57, by kernel_rfl, by kernel_rfl⟩
theorem enters_bits_Reverse8 : Enters Go.Proofs.Try.prog 58 := ⟨Go.Proofs.Try.f58, Go.Proofs.Try.func58, by kernel_rfl, by kernel_rfl⟩
theorem enters_ref13_rev : Enters Go.Proofs.Try.prog 59 := ⟨Go.Proofs.Try.f59, Go.Proofs.Try.func59, by kernel_rfl, by kernel_rfl⟩
theorem enters_keccak_started : Enters Go.Proofs.Try.prog 60 := ⟨Go.Proofs.Try.f60, Go.Proofs.Try.func60, by kernel_rfl, by kernel_rfl⟩
theorem enters_keccak_Xof_none : Enters Go.Proofs.Try.prog 61 := ⟨Go.Proofs.Try.f61, Go.Proofs.Try.func61, by kernel_rfl, by kernel_rfl⟩
theorem enters_keccak_may : Enters Go.Proofs.Try.prog 62 := ⟨Go.Proofs.Try.f62, Go.Proofs.Try.func62, by kernel_rfl, by kernel_rfl⟩
theorem enters_keccak_sponge_gives : Enters Go.Proofs.Try.prog 63 := ⟨Go.Proofs.Try.f63, Go.Proofs.Try.func63, by kernel_rfl, by kernel_rfl⟩
theorem enters_ref03_Sponge : Enters Go.Proofs.Try.prog 64 := ⟨Go.Proofs.Try.f64, Go.Proofs.Try.func64, by kernel_rfl, by kernel_rfl⟩
theorem enters_keccak_sponge_takes : Enters Go.Proofs.Try.prog 65 := ⟨Go.Proofs.Try.f65, Go.Proofs.Try.func65, by kernel_rfl, by kernel_rfl⟩
theorem enters_keccak_Permute : Enters Go.Proofs.Try.prog 66 := ⟨Go.Proofs.Try.f66, Go.Proofs.Try.func66, by kernel_rfl, by kernel_rfl⟩
theorem enters_ref01_Join : Enters Go.Proofs.Try.prog 67 := ⟨Go.Proofs.Try.f67, Go.Proofs.Try.func67, by kernel_rfl, by kernel_rfl⟩
theorem enters_ref03_Permute : Enters Go.Proofs.Try.prog 68 := ⟨Go.Proofs.Try.f68, Go.Proofs.Try.func68, by kernel_rfl, by kernel_rfl⟩
theorem enters_ref03_bytes : Enters Go.Proofs.Try.prog 69 := ⟨Go.Proofs.Try.f69, Go.Proofs.Try.func69, by kernel_rfl, by kernel_rfl⟩
theorem enters_keccak_sponge_put : Enters Go.Proofs.Try.prog 70 := ⟨Go.Proofs.Try.f70, Go.Proofs.Try.func70, by kernel_rfl, by kernel_rfl⟩
theorem enters_keccak_offsets : Enters Go.Proofs.Try.prog 71 := ⟨Go.Proofs.Try.f71, Go.Proofs.Try.func71, by kernel_rfl, by kernel_rfl⟩
theorem enters_keccak_constants : Enters Go.Proofs.Try.prog 72 := ⟨Go.Proofs.Try.f72, Go.Proofs.Try.func72, by kernel_rfl, by kernel_rfl⟩
theorem enters_keccak_mixed : Enters Go.Proofs.Try.prog 73 := ⟨Go.Proofs.Try.f73, Go.Proofs.Try.func73, by kernel_rfl, by kernel_rfl⟩
theorem enters_ref03_constants : Enters Go.Proofs.Try.prog 74 := ⟨Go.Proofs.Try.f74, Go.Proofs.Try.func74, by kernel_rfl, by kernel_rfl⟩
theorem enters_ref03_round : Enters Go.Proofs.Try.prog 75 := ⟨Go.Proofs.Try.f75, Go.Proofs.Try.func75, by kernel_rfl, by kernel_rfl⟩
theorem enters_bits_RotateLeft64 : Enters Go.Proofs.Try.prog 76 := ⟨Go.Proofs.Try.f76, Go.Proofs.Try.func76, by kernel_rfl, by kernel_rfl⟩
theorem enters_ref03_turn : Enters Go.Proofs.Try.prog 77 := ⟨Go.Proofs.Try.f77, Go.Proofs.Try.func77, by kernel_rfl, by kernel_rfl⟩
end Go.Ax.TryP
