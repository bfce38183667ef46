/- A part of the proof: RingT. -/
import Derived.Test.YtefpbeklpfihfaaAx24
import Derived.Test.YtefpbeklpfihfaaProg
/-! Printed by program (gen.py). -/
set_option linter.unusedVariables false
namespace Go.Ax.TryP
theorem mix : Go.Proofs.Try.prog.follows .mixedOrders = true := by kernel_rfl
noncomputable def ty3 : TyI where
  td := .int .i64
  size := 1
  bytes := 8
  zero := [.xs (.int .i64) 1 [0]]
theorem ty3_ok : TyOk Go.Proofs.Try.prog 3 ty3 :=
  TyOk.of (z := (Go.Proofs.Try.t3.zero).getD .nilIface) (cs := (zeroS ty3.zero).getD []) Go.Proofs.Try.underlying3 Go.Proofs.Try.type3 (by kernel_rfl) ⟨by kernel_rfl, by kernel_rfl⟩ (by kernel_rfl) (by kernel_rfl) (by kernel_rfl) (by kernel_rfl) (by kernel_rfl)
noncomputable def ty4 : TyI where
  td := .bool
  size := 1
  bytes := 1
  zero := [.xs .bool 1 [0]]
theorem ty4_ok : TyOk Go.Proofs.Try.prog 4 ty4 :=
  TyOk.of (z := (Go.Proofs.Try.t4.zero).getD .nilIface) (cs := (zeroS ty4.zero).getD []) Go.Proofs.Try.underlying4 Go.Proofs.Try.type4 (by kernel_rfl) ⟨by kernel_rfl, by kernel_rfl⟩ (by kernel_rfl) (by kernel_rfl) (by kernel_rfl) (by kernel_rfl) (by kernel_rfl)
noncomputable def ty5 : TyI where
  td := .int .u8
  size := 1
  bytes := 1
  zero := [.xs (.int .u8) 1 [0]]
theorem ty5_ok : TyOk Go.Proofs.Try.prog 5 ty5 :=
  TyOk.of (z := (Go.Proofs.Try.t5.zero).getD .nilIface) (cs := (zeroS ty5.zero).getD []) Go.Proofs.Try.underlying5 Go.Proofs.Try.type5 (by kernel_rfl) ⟨by kernel_rfl, by kernel_rfl⟩ (by kernel_rfl) (by kernel_rfl) (by kernel_rfl) (by kernel_rfl) (by kernel_rfl)
noncomputable def ty9 : TyI where
  td := .str
  size := 1
  bytes := 16
  zero := [.one (.str (⟨#[]⟩ : ByteArray))]
theorem ty9_ok : TyOk Go.Proofs.Try.prog 9 ty9 :=
  TyOk.of (z := (Go.Proofs.Try.t9.zero).getD .nilIface) (cs := (zeroS ty9.zero).getD []) Go.Proofs.Try.underlying9 Go.Proofs.Try.type9 (by kernel_rfl) ⟨by kernel_rfl, by kernel_rfl⟩ (by kernel_rfl) (by kernel_rfl) (by kernel_rfl) (by kernel_rfl) (by kernel_rfl)
noncomputable def ty22 : TyI where
  td := .int .u16
  size := 1
  bytes := 2
  zero := [.xs (.int .u16) 1 [0]]
theorem ty22_ok : TyOk Go.Proofs.Try.prog 22 ty22 :=
  TyOk.of (z := (Go.Proofs.Try.t22.zero).getD .nilIface) (cs := (zeroS ty22.zero).getD []) Go.Proofs.Try.underlying22 Go.Proofs.Try.type22 (by kernel_rfl) ⟨by kernel_rfl, by kernel_rfl⟩ (by kernel_rfl) (by kernel_rfl) (by kernel_rfl) (by kernel_rfl) (by kernel_rfl)
noncomputable def ty24 : TyI where
  td := .arr 256 22
  size := 256
  bytes := 512
  zero := [.xs (.int .u16) 256 (List.replicate 256 0)]
theorem ty24_ok : TyOk Go.Proofs.Try.prog 24 ty24 :=
  TyOk.of (z := (Go.Proofs.Try.t24.zero).getD .nilIface) (cs := (zeroS ty24.zero).getD []) Go.Proofs.Try.underlying24 Go.Proofs.Try.type24 (by kernel_rfl) ⟨by kernel_rfl, by kernel_rfl⟩ (by kernel_rfl) (by kernel_rfl) (by kernel_rfl) (by kernel_rfl) (by kernel_rfl)
noncomputable def ty31 : TyI where
  td := .int .u64
  size := 1
  bytes := 8
  zero := [.xs (.int .u64) 1 [0]]
theorem ty31_ok : TyOk Go.Proofs.Try.prog 31 ty31 :=
  TyOk.of (z := (Go.Proofs.Try.t31.zero).getD .nilIface) (cs := (zeroS ty31.zero).getD []) Go.Proofs.Try.underlying31 Go.Proofs.Try.type31 (by kernel_rfl) ⟨by kernel_rfl, by kernel_rfl⟩ (by kernel_rfl) (by kernel_rfl) (by kernel_rfl) (by kernel_rfl) (by kernel_rfl)
noncomputable def ty34 : TyI where
  td := .sl 5
  size := 1
  bytes := 24
  zero := [.one (.nilsl)]
theorem ty34_ok : TyOk Go.Proofs.Try.prog 34 ty34 :=
  TyOk.of (z := (Go.Proofs.Try.t34.zero).getD .nilIface) (cs := (zeroS ty34.zero).getD []) Go.Proofs.Try.underlying34 Go.Proofs.Try.type34 (by kernel_rfl) ⟨by kernel_rfl, by kernel_rfl⟩ (by kernel_rfl) (by kernel_rfl) (by kernel_rfl) (by kernel_rfl) (by kernel_rfl)
noncomputable def ty46 : TyI where
  td := .int .u32
  size := 1
  bytes := 4
  zero := [.xs (.int .u32) 1 [0]]
theorem ty46_ok : TyOk Go.Proofs.Try.prog 46 ty46 :=
  TyOk.of (z := (Go.Proofs.Try.t46.zero).getD .nilIface) (cs := (zeroS ty46.zero).getD []) Go.Proofs.Try.underlying46 Go.Proofs.Try.type46 (by kernel_rfl) ⟨by kernel_rfl, by kernel_rfl⟩ (by kernel_rfl) (by kernel_rfl) (by kernel_rfl) (by kernel_rfl) (by kernel_rfl)
noncomputable def ty48 : TyI where
  td := .arr 128 22
  size := 128
  bytes := 256
  zero := [.xs (.int .u16) 128 (List.replicate 128 0)]
theorem ty48_ok : TyOk Go.Proofs.Try.prog 48 ty48 :=
  TyOk.of (z := (Go.Proofs.Try.t48.zero).getD .nilIface) (cs := (zeroS ty48.zero).getD []) Go.Proofs.Try.underlying48 Go.Proofs.Try.type48 (by kernel_rfl) ⟨by kernel_rfl, by kernel_rfl⟩ (by kernel_rfl) (by kernel_rfl) (by kernel_rfl) (by kernel_rfl) (by kernel_rfl)
noncomputable def ty52 : TyI where
  td := .sl 4
  size := 1
  bytes := 24
  zero := [.one (.nilsl)]
theorem ty52_ok : TyOk Go.Proofs.Try.prog 52 ty52 :=
  TyOk.of (z := (Go.Proofs.Try.t52.zero).getD .nilIface) (cs := (zeroS ty52.zero).getD []) Go.Proofs.Try.underlying52 Go.Proofs.Try.type52 (by kernel_rfl) ⟨by kernel_rfl, by kernel_rfl⟩ (by kernel_rfl) (by kernel_rfl) (by kernel_rfl) (by kernel_rfl) (by kernel_rfl)
noncomputable def ty58 : TyI where
  td := .sl 3
  size := 1
  bytes := 24
  zero := [.one (.nilsl)]
theorem ty58_ok : TyOk Go.Proofs.Try.prog 58 ty58 :=
  TyOk.of (z := (Go.Proofs.Try.t58.zero).getD .nilIface) (cs := (zeroS ty58.zero).getD []) Go.Proofs.Try.underlying58 Go.Proofs.Try.type58 (by kernel_rfl) ⟨by kernel_rfl, by kernel_rfl⟩ (by kernel_rfl) (by kernel_rfl) (by kernel_rfl) (by kernel_rfl) (by kernel_rfl)
noncomputable def ty60 : TyI where
  td := .arr 512 3
  size := 512
  bytes := 4096
  zero := [.xs (.int .i64) 512 (List.replicate 512 0)]
theorem ty60_ok : TyOk Go.Proofs.Try.prog 60 ty60 :=
  TyOk.of (z := (Go.Proofs.Try.t60.zero).getD .nilIface) (cs := (zeroS ty60.zero).getD []) Go.Proofs.Try.underlying60 Go.Proofs.Try.type60 (by kernel_rfl) ⟨by kernel_rfl, by kernel_rfl⟩ (by kernel_rfl) (by kernel_rfl) (by kernel_rfl) (by kernel_rfl) (by kernel_rfl)
noncomputable def ty70 : TyI where
  td := .int .u64
  size := 1
  bytes := 8
  zero := [.xs (.int .u64) 1 [0]]
theorem ty70_ok : TyOk Go.Proofs.Try.prog 70 ty70 :=
  TyOk.of (z := (Go.Proofs.Try.t70.zero).getD .nilIface) (cs := (zeroS ty70.zero).getD []) Go.Proofs.Try.underlying70 Go.Proofs.Try.type70 (by kernel_rfl) ⟨by kernel_rfl, by kernel_rfl⟩ (by kernel_rfl) (by kernel_rfl) (by kernel_rfl) (by kernel_rfl) (by kernel_rfl)
noncomputable def ty71 : TyI where
  td := .arr 25 70
  size := 25
  bytes := 200
  zero := [.xs (.int .u64) 25 (List.replicate 25 0)]
theorem ty71_ok : TyOk Go.Proofs.Try.prog 71 ty71 :=
  TyOk.of (z := (Go.Proofs.Try.t71.zero).getD .nilIface) (cs := (zeroS ty71.zero).getD []) Go.Proofs.Try.underlying71 Go.Proofs.Try.type71 (by kernel_rfl) ⟨by kernel_rfl, by kernel_rfl⟩ (by kernel_rfl) (by kernel_rfl) (by kernel_rfl) (by kernel_rfl) (by kernel_rfl)
noncomputable def ty84 : TyI where
  td := .arr 25 3
  size := 25
  bytes := 200
  zero := [.xs (.int .i64) 25 (List.replicate 25 0)]
theorem ty84_ok : TyOk Go.Proofs.Try.prog 84 ty84 :=
  TyOk.of (z := (Go.Proofs.Try.t84.zero).getD .nilIface) (cs := (zeroS ty84.zero).getD []) Go.Proofs.Try.underlying84 Go.Proofs.Try.type84 (by kernel_rfl) ⟨by kernel_rfl, by kernel_rfl⟩ (by kernel_rfl) (by kernel_rfl) (by kernel_rfl) (by kernel_rfl) (by kernel_rfl)
noncomputable def ty86 : TyI where
  td := .arr 24 70
  size := 24
  bytes := 192
  zero := [.xs (.int .u64) 24 (List.replicate 24 0)]
theorem ty86_ok : TyOk Go.Proofs.Try.prog 86 ty86 :=
  TyOk.of (z := (Go.Proofs.Try.t86.zero).getD .nilIface) (cs := (zeroS ty86.zero).getD []) Go.Proofs.Try.underlying86 Go.Proofs.Try.type86 (by kernel_rfl) ⟨by kernel_rfl, by kernel_rfl⟩ (by kernel_rfl) (by kernel_rfl) (by kernel_rfl) (by kernel_rfl) (by kernel_rfl)
noncomputable def ty91 : TyI where
  td := .arr 5 70
  size := 5
  bytes := 40
  zero := [.xs (.int .u64) 5 (List.replicate 5 0)]
theorem ty91_ok : TyOk Go.Proofs.Try.prog 91 ty91 :=
  TyOk.of (z := (Go.Proofs.Try.t91.zero).getD .nilIface) (cs := (zeroS ty91.zero).getD []) Go.Proofs.Try.underlying91 Go.Proofs.Try.type91 (by kernel_rfl) ⟨by kernel_rfl, by kernel_rfl⟩ (by kernel_rfl) (by kernel_rfl) (by kernel_rfl) (by kernel_rfl) (by kernel_rfl)
theorem enters3 : Enters Go.Proofs.Try.prog 3 := ⟨Go.Proofs.Try.f3, Go.Proofs.Try.func3, by kernel_rfl, by kernel_rfl⟩
theorem enters4 : Enters Go.Proofs.Try.prog 4 := ⟨Go.Proofs.Try.f4, Go.Proofs.Try.func4, by kernel_rfl, by kernel_rfl⟩
theorem enters5 : Enters Go.Proofs.Try.prog 5 := ⟨Go.Proofs.Try.f5, Go.Proofs.Try.func5, by kernel_rfl, by kernel_rfl⟩
theorem enters6 : Enters Go.Proofs.Try.prog 6 := ⟨Go.Proofs.Try.f6, Go.Proofs.Try.func6, by kernel_rfl, by kernel_rfl⟩
theorem enters7 : Enters Go.Proofs.Try.prog 7 := ⟨Go.Proofs.Try.f7, Go.Proofs.Try.func7, by kernel_rfl, by kernel_rfl⟩
theorem enters8 : Enters Go.Proofs.Try.prog 8 := ⟨Go.Proofs.Try.f8, Go.Proofs.Try.func8, by kernel_rfl, by kernel_rfl⟩
theorem enters9 : Enters Go.Proofs.Try.prog 9 := ⟨Go.Proofs.Try.f9, Go.Proofs.Try.func9, by kernel_rfl, by kernel_rfl⟩
theorem enters10 : Enters Go.Proofs.Try.prog 10 := ⟨Go.Proofs.Try.f10, Go.Proofs.Try.func10, by kernel_rfl, by kernel_rfl⟩
theorem enters11 : Enters Go.Proofs.Try.prog 11 := ⟨Go.Proofs.Try.f11, Go.Proofs.Try.func11, by kernel_rfl, by kernel_rfl⟩
theorem enters12 : Enters Go.Proofs.Try.prog 12 := ⟨Go.Proofs.Try.f12, Go.Proofs.Try.func12, by kernel_rfl, by kernel_rfl⟩
theorem enters13 : Enters Go.Proofs.Try.prog 13 := ⟨Go.Proofs.Try.f13, Go.Proofs.Try.func13, by kernel_rfl, by kernel_rfl⟩
theorem enters14 : Enters Go.Proofs.Try.prog 14 := ⟨Go.Proofs.Try.f14, Go.Proofs.Try.func14, by kernel_rfl, by kernel_rfl⟩
theorem enters15 : Enters Go.Proofs.Try.prog 15 := ⟨Go.Proofs.Try.f15, Go.Proofs.Try.func15, by kernel_rfl, by kernel_rfl⟩
theorem enters16 : Enters Go.Proofs.Try.prog 16 := ⟨Go.Proofs.Try.f16, Go.Proofs.Try.func16, by kernel_rfl, by kernel_rfl⟩
theorem enters17 : Enters Go.Proofs.Try.prog 17 := ⟨Go.Proofs.Try.f17, Go.Proofs.Try.func17, by kernel_rfl, by kernel_rfl⟩
theorem enters18 : Enters Go.Proofs.Try.prog 18 := ⟨Go.Proofs.Try.f18, Go.Proofs.Try.func18, by kernel_rfl, by kernel_rfl⟩
theorem enters19 : Enters Go.Proofs.Try.prog 19 := ⟨Go.Proofs.Try.f19, Go.Proofs.Try.func19, by kernel_rfl, by kernel_rfl⟩
theorem enters20 : Enters Go.Proofs.Try.prog 20 := ⟨Go.Proofs.Try.f20, Go.Proofs.Try.func20, by kernel_rfl, by kernel_rfl⟩
theorem enters21 : Enters Go.Proofs.Try.prog 21 := ⟨Go.Proofs.Try.f21, Go.Proofs.Try.func21, by kernel_rfl, by kernel_rfl⟩
theorem enters22 : Enters Go.Proofs.Try.prog 22 := ⟨Go.Proofs.Try.f22, Go.Proofs.Try.func22, by kernel_rfl, by kernel_rfl⟩
theorem enters23 : Enters Go.Proofs.Try.prog 23 := ⟨Go.Proofs.Try.f23, Go.Proofs.Try.func23, by kernel_rfl, by kernel_rfl⟩
theorem enters24 : Enters Go.Proofs.Try.prog 24 := ⟨Go.Proofs.Try.f24, Go.Proofs.Try.func24, by kernel_rfl, by kernel_rfl⟩
theorem enters25 : Enters Go.Proofs.Try.prog 25 := ⟨Go.Proofs.Try.f25, Go.Proofs.Try.func25, by kernel_rfl, by kernel_rfl⟩
theorem enters26 : Enters Go.Proofs.Try.prog 26 := ⟨Go.Proofs.Try.f26, Go.Proofs.Try.func26, by kernel_rfl, by kernel_rfl⟩
theorem enters27 : Enters Go.Proofs.Try.prog 27 := ⟨Go.Proofs.Try.f27, Go.Proofs.Try.func27, by kernel_rfl, by kernel_rfl⟩
theorem enters28 : Enters Go.Proofs.Try.prog 28 := ⟨Go.Proofs.Try.f28, Go.Proofs.Try.func28, by kernel_rfl, by kernel_rfl⟩
theorem enters29 : Enters Go.Proofs.Try.prog 29 := ⟨Go.Proofs.Try.f29, Go.Proofs.Try.func29, by kernel_rfl, by kernel_rfl⟩
theorem enters30 : Enters Go.Proofs.Try.prog 30 := ⟨Go.Proofs.Try.f30, Go.Proofs.Try.func30, by kernel_rfl, by kernel_rfl⟩
theorem enters31 : Enters Go.Proofs.Try.prog 31 := ⟨Go.Proofs.Try.f31, Go.Proofs.Try.func31, by kernel_rfl, by kernel_rfl⟩
theorem enters32 : Enters Go.Proofs.Try.prog 32 := ⟨Go.Proofs.Try.f32, Go.Proofs.Try.func32, by kernel_rfl, by kernel_rfl⟩
theorem enters33 : Enters Go.Proofs.Try.prog 33 := ⟨Go.Proofs.Try.f33, Go.Proofs.Try.func33, by kernel_rfl, by kernel_rfl⟩
theorem enters34 : Enters Go.Proofs.Try.prog 34 := ⟨Go.Proofs.Try.f34, Go.Proofs.Try.func34, by kernel_rfl, by kernel_rfl⟩
theorem enters35 : Enters Go.Proofs.Try.prog 35 := ⟨Go.Proofs.Try.f35, Go.Proofs.Try.func35, by kernel_rfl, by kernel_rfl⟩
theorem enters36 : Enters Go.Proofs.Try.prog 36 := ⟨Go.Proofs.Try.f36, Go.Proofs.Try.func36, by kernel_rfl, by kernel_rfl⟩
theorem enters37 : Enters Go.Proofs.Try.prog 37 := ⟨Go.Proofs.Try.f37, Go.Proofs.Try.func37, by kernel_rfl, by kernel_rfl⟩
theorem enters38 : Enters Go.Proofs.Try.prog 38 := ⟨Go.Proofs.Try.f38, Go.Proofs.Try.func38, by kernel_rfl, by kernel_rfl⟩
theorem enters39 : Enters Go.Proofs.Try.prog 39 := ⟨Go.Proofs.Try.f39, Go.Proofs.Try.func39, by kernel_rfl, by kernel_rfl⟩
theorem enters40 : Enters Go.Proofs.Try.prog 40 := ⟨Go.Proofs.Try.f40, Go.Proofs.Try.func40, by kernel_rfl, by kernel_rfl⟩
theorem enters41 : Enters Go.Proofs.Try.prog 41 := ⟨Go.Proofs.Try.f41, Go.Proofs.Try.func41, by kernel_rfl, by kernel_rfl⟩
theorem enters42 : Enters Go.Proofs.Try.prog 42 := ⟨Go.Proofs.Try.f42, Go.Proofs.Try.func42, by kernel_rfl, by kernel_rfl⟩
theorem enters43 : Enters Go.Proofs.Try.prog 43 := ⟨Go.Proofs.Try.f43, Go.Proofs.Try.func43, by kernel_rfl, by kernel_rfl⟩
theorem enters44 : Enters Go.Proofs.Try.prog 44 := ⟨Go.Proofs.Try.f44, Go.Proofs.Try.func44, by kernel_rfl, by kernel_rfl⟩
theorem enters45 : Enters Go.Proofs.Try.prog 45 := ⟨Go.Proofs.Try.f45, Go.Proofs.Try.func45, by kernel_rfl, by kernel_rfl⟩
theorem enters46 : Enters Go.Proofs.Try.prog 46 := ⟨Go.Proofs.Try.f46, Go.Proofs.Try.func46, by kernel_rfl, by kernel_rfl⟩
theorem enters47 : Enters Go.Proofs.Try.prog 47 := ⟨Go.Proofs.Try.f47, Go.Proofs.Try.func47, by kernel_rfl, by kernel_rfl⟩
theorem enters48 : Enters Go.Proofs.Try.prog 48 := ⟨Go.Proofs.Try.f48, Go.Proofs.Try.func48, by kernel_rfl, by kernel_rfl⟩
theorem enters50 : Enters Go.Proofs.Try.prog 50 := ⟨Go.Proofs.Try.f50, Go.Proofs.Try.func50, by kernel_rfl, by kernel_rfl⟩
theorem enters51 : Enters Go.Proofs.Try.prog 51 := ⟨Go.Proofs.Try.f51, Go.Proofs.Try.func51, by kernel_rfl, by kernel_rfl⟩
theorem enters52 : Enters Go.Proofs.Try.prog 52 := ⟨Go.Proofs.Try.f52, Go.Proofs.Try.func52, by kernel_rfl, by kernel_rfl⟩
theorem enters53 : Enters Go.Proofs.Try.prog 53 := ⟨Go.Proofs.Try.f53, Go.Proofs.Try.func53, by kernel_rfl, by kernel_rfl⟩
theorem enters54 : Enters Go.Proofs.Try.prog 54 := ⟨Go.Proofs.Try.f54, Go.Proofs.Try.func54, by kernel_rfl, by kernel_rfl⟩
theorem enters57 : Enters Go.Proofs.Try.prog 57 := ⟨Go.Proofs.Try.f57, Go.Proofs.Try.func57, by kernel_rfl, by kernel_rfl⟩
theorem enters58 : Enters Go.Proofs.Try.prog 58 := ⟨Go.Proofs.Try.f58, Go.Proofs.Try.func58, by kernel_rfl, by kernel_rfl⟩
theorem enters59 : Enters Go.Proofs.Try.prog 59 := ⟨Go.Proofs.Try.f59, Go.Proofs.Try.func59, by kernel_rfl, by kernel_rfl⟩
theorem enters62 : Enters Go.Proofs.Try.prog 62 := ⟨Go.Proofs.Try.f62, Go.Proofs.Try.func62, by kernel_rfl, by kernel_rfl⟩
theorem enters64 : Enters Go.Proofs.Try.prog 64 := ⟨Go.Proofs.Try.f64, Go.Proofs.Try.func64, by kernel_rfl, by kernel_rfl⟩
theorem enters68 : Enters Go.Proofs.Try.prog 68 := ⟨Go.Proofs.Try.f68, Go.Proofs.Try.func68, by kernel_rfl, by kernel_rfl⟩
theorem enters69 : Enters Go.Proofs.Try.prog 69 := ⟨Go.Proofs.Try.f69, Go.Proofs.Try.func69, by kernel_rfl, by kernel_rfl⟩
theorem enters71 : Enters Go.Proofs.Try.prog 71 := ⟨Go.Proofs.Try.f71, Go.Proofs.Try.func71, by kernel_rfl, by kernel_rfl⟩
theorem enters72 : Enters Go.Proofs.Try.prog 72 := ⟨Go.Proofs.Try.f72, Go.Proofs.Try.func72, by kernel_rfl, by kernel_rfl⟩
theorem enters74 : Enters Go.Proofs.Try.prog 74 := ⟨Go.Proofs.Try.f74, Go.Proofs.Try.func74, by kernel_rfl, by kernel_rfl⟩
theorem enters75 : Enters Go.Proofs.Try.prog 75 := ⟨Go.Proofs.Try.f75, Go.Proofs.Try.func75, by kernel_rfl, by kernel_rfl⟩
theorem enters76 : Enters Go.Proofs.Try.prog 76 := ⟨Go.Proofs.Try.f76, Go.Proofs.Try.func76, by kernel_rfl, by kernel_rfl⟩
theorem enters77 : Enters Go.Proofs.Try.prog 77 := ⟨Go.Proofs.Try.f77, Go.Proofs.Try.func77, by kernel_rfl, by kernel_rfl⟩
end Go.Ax.TryP
