/- A part of the proof: DnP4, DnP5, DnQ8, DnS6, DnM6, DnM7, DnQ9, DnQ10a, DnQ10, DnQ11, DnQ12, DnQ13, DnW. -/
import Derived.Test.YtnokmgclkediiaaDnA
/-! Printed by program (gen.py). -/
set_option linter.unusedVariables false
namespace Go.Ax.TryP
/-! math/bits.Reverse8 -/
noncomputable def p_bits_Reverse8_s0 : ByteArray := ⟨#[0, 128, 64, 192, 32, 160, 96, 224, 16, 144, 80, 208, 48, 176, 112, 240, 8, 136, 72, 200, 40, 168, 104, 232, 24, 152, 88, 216, 56, 184, 120, 248, 4, 132, 68, 196, 36, 164, 100, 228, 20, 148, 84, 212, 52, 180, 116, 244, 12, 140, 76, 204, 44, 172, 108, 236, 28, 156, 92, 220, 60, 188, 124, 252, 2, 130, 66, 194, 34, 162, 98, 226, 18, 146, 82, 210, 50, 178, 114, 242, 10, 138, 74, 202, 42, 170, 106, 234, 26, 154, 90, 218, 58, 186, 122, 250, 6, 134, 70, 198, 38, 166, 102, 230, 22, 150, 86, 214, 54, 182, 118, 246, 14, 142, 78, 206, 46, 174, 110, 238, 30, 158, 94, 222, 62, 190, 126, 254, 1, 129, 65, 193, 33, 161, 97, 225, 17, 145, 81, 209, 49, 177, 113, 241, 9, 137, 73, 201, 41, 169, 105, 233, 25, 153, 89, 217, 57, 185, 121, 249, 5, 133, 69, 197, 37, 165, 101, 229, 21, 149, 85, 213, 53, 181, 117, 245, 13, 141, 77, 205, 45, 173, 109, 237, 29, 157, 93, 221, 61, 189, 125, 253, 3, 131, 67, 195, 35, 163, 99, 227, 19, 147, 83, 211, 51, 179, 115, 243, 11, 139, 75, 203, 43, 171, 107, 235, 27, 155, 91, 219, 59, 187, 123, 251, 7, 135, 71, 199, 39, 167, 103, 231, 23, 151, 87, 215, 55, 183, 119, 247, 15, 143, 79, 207, 47, 175, 111, 239, 31, 159, 95, 223, 63, 191, 127, 255]⟩
noncomputable def p_bits_Reverse8_E : AE := AE.of [(9, ty9)] []
noncomputable def p_bits_Reverse8_H : Hints := [(3000000, [2])]
noncomputable def p_bits_Reverse8_c : Code := (Go.Proofs.Try.f78).body.getD .skip
abbrev p_bits_Reverse8_ks : List Kd := [.int .u8]
abbrev p_bits_Reverse8_rs : List Kd := [.int .u8]
noncomputable def p_bits_Reverse8 (N : Nat) (x : Int × Unit) : Option (Int) :=
  if 0 ≤ x.1 then (
  if x.1 < ((ByteArray.size p_bits_Reverse8_s0 : Nat) : Int) then (
  some (bt p_bits_Reverse8_s0 (x.1.toNat))) else none) else none
theorem p_bits_Reverse8_eq (N : Nat) (x : Ds [.int .u8]) : funL p_bits_Reverse8_E p_bits_Reverse8_H (LT.nil) N Go.Proofs.Try.f78 p_bits_Reverse8_c [.int .u8] [.int .u8] x = p_bits_Reverse8 N x := by kernel_rfl
theorem p_bits_Reverse8_Eok : p_bits_Reverse8_E.Ok Go.Proofs.Try.prog := AE.of_ok (all_cons ty9_ok all_nil) all_nil
theorem p_bits_Reverse8_ok {g : Ds [.int .u8] → Option (Rs [.int .u8])} (hg : ∀ x r, g x = some r → ∃ N, p_bits_Reverse8 N x = some r) : SigOk Go.Proofs.Try.prog 78 ⟨[.int .u8], [.int .u8], g⟩ :=
  fun_of (E := p_bits_Reverse8_E) (H := p_bits_Reverse8_H) (L := fun N => LT.nil) (c := p_bits_Reverse8_c) (ks := p_bits_Reverse8_ks) (rs := p_bits_Reverse8_rs) (F := p_bits_Reverse8) (p_bits_Reverse8_Eok) mix Go.Proofs.Try.func78 (by kernel_rfl) (fun N => OkAll.nil) p_bits_Reverse8_eq hg

/-! livery/dring.times -/
noncomputable def p_dring_times_E : AE := AE.of [(2, ty2), (21, ty21)] [(59, ⟨[.int .i64], [.int .i32], g_dring_below⟩)]
noncomputable def p_dring_times_H : Hints := [(3000000, [4])]
noncomputable def p_dring_times_c : Code := (Go.Proofs.Try.f61).body.getD .skip
abbrev p_dring_times_ks : List Kd := [.int .i32, .int .i32]
abbrev p_dring_times_rs : List Kd := [.int .i32]
noncomputable def p_dring_times (N : Nat) (x : Int × Int × Unit) : Option (Int) :=
  (g_dring_below ((IntKind.i64.wrap ((IntKind.i64.wrap x.1) * (IntKind.i64.wrap x.2.1))), ())).bind fun r1 => (
  some r1)
theorem p_dring_times_eq (N : Nat) (x : Ds [.int .i32, .int .i32]) : funL p_dring_times_E p_dring_times_H (LT.nil) N Go.Proofs.Try.f61 p_dring_times_c [.int .i32, .int .i32] [.int .i32] x = p_dring_times N x := by kernel_rfl
theorem p_dring_times_Eok (he_dring_below : SigOk Go.Proofs.Try.prog 59 ⟨[.int .i64], [.int .i32], g_dring_below⟩) : p_dring_times_E.Ok Go.Proofs.Try.prog := AE.of_ok (all_cons ty2_ok (all_cons ty21_ok all_nil)) (all_cons ⟨he_dring_below, enters_dring_below⟩ all_nil)
theorem p_dring_times_ok (he_dring_below : SigOk Go.Proofs.Try.prog 59 ⟨[.int .i64], [.int .i32], g_dring_below⟩) {g : Ds [.int .i32, .int .i32] → Option (Rs [.int .i32])} (hg : ∀ x r, g x = some r → ∃ N, p_dring_times N x = some r) : SigOk Go.Proofs.Try.prog 61 ⟨[.int .i32, .int .i32], [.int .i32], g⟩ :=
  fun_of (E := p_dring_times_E) (H := p_dring_times_H) (L := fun N => LT.nil) (c := p_dring_times_c) (ks := p_dring_times_ks) (rs := p_dring_times_rs) (F := p_dring_times) (p_dring_times_Eok he_dring_below) mix Go.Proofs.Try.func61 (by kernel_rfl) (fun N => OkAll.nil) p_dring_times_eq hg

/-! livery/dring.powers -/
noncomputable def p_dring_powers_E : AE := AE.of [(3, ty3), (5, ty5), (21, ty21), (22, ty22)] [(61, ⟨[.int .i32, .int .i32], [.int .i32], g_dring_times⟩), (78, ⟨[.int .u8], [.int .u8], g_bits_Reverse8⟩)]
noncomputable def p_dring_powers_H : Hints := [(4, [0, 1, 2, 3]), (8, [0, 1, 2, 17]), (2000000, [0, 1, 2]), (2000001, [0, 1, 2, 3]), (2000002, [0, 2]), (2000003, [0, 1, 2, 17]), (3000000, [0])]
noncomputable def p_dring_powers_c : Code := (Go.Proofs.Try.f60).body.getD .skip
noncomputable def p_dring_powers_l4_S : Shape where
  h := { tmps := [.sc (.ptr 0 0 false), .sc (.ptr 1 0 false), .sc (.ptr 2 0 false), .sc (.int .i64), .any, .any, .any, .any, .any, .any, .any, .any, .any, .any, .any, .any, .any, .any, .any, .any, .any, .any, .any, .any, .any, .any, .any, .any, .any], mem := [.live [.xs (.int .i32) (some 256)] (.own), .live [.xs (.int .i32) (some 256)] (.own), .live [.xs (.int .i32) (some 256)] (.own)] }
  ks := [.int, .xs, .xs, .xs]
  st := fun x => { tmps := [.one (.sc (.ptr 0 0 none)), .one (.sc (.ptr 1 0 none)), .one (.sc (.ptr 2 0 none)), .one (.sc (.int .i64 x.1)), .one .any, .one .any, .one .any, .one .any, .one .any, .one .any, .one .any, .one .any, .one .any, .one .any, .one .any, .one .any, .one .any, .one .any, .one .any, .one .any, .one .any, .one .any, .one .any, .one .any, .one .any, .one .any, .one .any, .one .any, .one .any], mem := [.live { segs := [.xs (.int .i32) 256 x.2.1], own := .own }, .live { segs := [.xs (.int .i32) 256 x.2.2.1], own := .own }, .live { segs := [.xs (.int .i32) 256 x.2.2.2.1], own := .own }] }
noncomputable def p_dring_powers_l4_F (N : Nat) (β : Type) (x : (Int × List Int × List Int × List Int × Unit)) (kn : (Int × List Int × List Int × List Int × Unit) → Option β) (ke : ((List Int × List Int × List Int × Unit)) → Option β) : Option β :=
  if (x.1 < (256:Int)) then
    if 0 ≤ (IntKind.i64.wrap (x.1 - (1:Int))) then (
    if (IntKind.i64.wrap (x.1 - (1:Int))) < 256 then (
    if ((IntKind.i64.wrap (x.1 - (1:Int))).toNat) < 256 then (
    (g_dring_times ((List.getD x.2.2.1 ((IntKind.i64.wrap (x.1 - (1:Int))).toNat) 0), (1753:Int), ())).bind fun r1 => (
    if 0 ≤ x.1 then (
    if x.1 < 256 then (
    if (x.1.toNat) < 256 then (
    kn ((IntKind.i64.wrap (x.1 + (1:Int))), x.2.1, (List.set x.2.2.1 (x.1.toNat) r1), x.2.2.2.1, ())) else none) else none) else none)) else none) else none) else none
  else
    ke (x.2.1, x.2.2.1, x.2.2.2.1, ())
noncomputable def p_dring_powers_l4_go : Go' ((List Int × List Int × List Int × Unit)) := fun y K => K (.exit 0) { tmps := [.one (.sc (.ptr 0 0 none)), .one (.sc (.ptr 1 0 none)), .one (.sc (.ptr 2 0 none)), .one .any, .one .any, .one .any, .one .any, .one .any, .one .any, .one .any, .one .any, .one .any, .one .any, .one .any, .one .any, .one .any, .one .any, .one .any, .one .any, .one .any, .one .any, .one .any, .one .any, .one .any, .one .any, .one .any, .one .any, .one .any, .one .any], mem := [.live { segs := [.xs (.int .i32) 256 y.1], own := .own }, .live { segs := [.xs (.int .i32) 256 y.2.1], own := .own }, .live { segs := [.xs (.int .i32) 256 y.2.2.1], own := .own }] }
noncomputable def p_dring_powers_l4_L (N : Nat) : LT := upd (LT.nil) 4 (loopE p_dring_powers_l4_S N (p_dring_powers_l4_F N) p_dring_powers_l4_go)
theorem p_dring_powers_l4_ok (N : Nat) : OkAll p_dring_powers_E p_dring_powers_H N (p_dring_powers_l4_L N) (subs p_dring_powers_c) :=
  addLoop (c := theLoop 4 p_dring_powers_c) (OkAll.nil) (by kernel_rfl) (fun x => by kernel_rfl) (fun β x kn ke => by kernel_rfl)
noncomputable def p_dring_powers_l8_S : Shape where
  h := { tmps := [.sc (.ptr 0 0 false), .sc (.ptr 1 0 false), .sc (.ptr 2 0 false), .any, .any, .any, .any, .any, .any, .any, .any, .any, .any, .any, .any, .any, .any, .sc (.int .i64), .any, .any, .any, .any, .any, .any, .any, .any, .any, .any, .any], mem := [.live [.xs (.int .i32) (some 256)] (.own), .live [.xs (.int .i32) (some 256)] (.own), .live [.xs (.int .i32) (some 256)] (.own)] }
  ks := [.int, .xs, .xs, .xs]
  st := fun x => { tmps := [.one (.sc (.ptr 0 0 none)), .one (.sc (.ptr 1 0 none)), .one (.sc (.ptr 2 0 none)), .one .any, .one .any, .one .any, .one .any, .one .any, .one .any, .one .any, .one .any, .one .any, .one .any, .one .any, .one .any, .one .any, .one .any, .one (.sc (.int .i64 x.1)), .one .any, .one .any, .one .any, .one .any, .one .any, .one .any, .one .any, .one .any, .one .any, .one .any, .one .any], mem := [.live { segs := [.xs (.int .i32) 256 x.2.1], own := .own }, .live { segs := [.xs (.int .i32) 256 x.2.2.1], own := .own }, .live { segs := [.xs (.int .i32) 256 x.2.2.2.1], own := .own }] }
noncomputable def p_dring_powers_l8_F (N : Nat) (β : Type) (x : (Int × List Int × List Int × List Int × Unit)) (kn : (Int × List Int × List Int × List Int × Unit) → Option β) (ke : ((List Int × List Int × Unit)) → Option β) : Option β :=
  if (x.1 < (256:Int)) then
    (g_bits_Reverse8 ((IntKind.u8.wrap x.1), ())).bind fun r3 => (
    if 0 ≤ r3 then (
    if r3 < 256 then (
    if (r3.toNat) < 256 then (
    if 0 ≤ x.1 then (
    if x.1 < 256 then (
    if (x.1.toNat) < 256 then (
    kn ((IntKind.i64.wrap (x.1 + (1:Int))), x.2.1, x.2.2.1, (List.set x.2.2.2.1 (x.1.toNat) (List.getD x.2.2.1 (r3.toNat) 0)), ())) else none) else none) else none) else none) else none) else none)
  else
    ke (x.2.1, x.2.2.2.1, ())
noncomputable def p_dring_powers_l8_go : Go' ((List Int × List Int × Unit)) := fun y K => K (.exit 2) { tmps := [.one (.sc (.ptr 0 0 none)), .one .any, .one (.sc (.ptr 1 0 none)), .one .any, .one .any, .one .any, .one .any, .one .any, .one .any, .one .any, .one .any, .one .any, .one .any, .one .any, .one .any, .one .any, .one .any, .one .any, .one .any, .one .any, .one .any, .one .any, .one .any, .one .any, .one .any, .one .any, .one .any, .one .any, .one .any], mem := [.live { segs := [.xs (.int .i32) 256 y.1], own := .own }, .live { segs := [.xs (.int .i32) 256 y.2.1], own := .own }] }
noncomputable def p_dring_powers_l8_L (N : Nat) : LT := upd (p_dring_powers_l4_L N) 8 (loopE p_dring_powers_l8_S N (p_dring_powers_l8_F N) p_dring_powers_l8_go)
theorem p_dring_powers_l8_ok (N : Nat) : OkAll p_dring_powers_E p_dring_powers_H N (p_dring_powers_l8_L N) (subs p_dring_powers_c) :=
  addLoop (c := theLoop 8 p_dring_powers_c) (p_dring_powers_l4_ok N) (by kernel_rfl) (fun x => by kernel_rfl) (fun β x kn ke => by kernel_rfl)
abbrev p_dring_powers_ks : List Kd := []
abbrev p_dring_powers_rs : List Kd := [.xs (.int .i32) 256]
noncomputable def p_dring_powers (N : Nat) (x : Unit) : Option (List Int) :=
  iter (p_dring_powers_l4_F N) N ((1:Int), (List.replicate 256 0), (List.set (List.replicate 256 0) 0 (1:Int)), (List.replicate 256 0), ()) fun y2 => (
  iter (p_dring_powers_l8_F N) N ((0:Int), y2.1, y2.2.1, y2.2.2.1, ()) fun y4 => (
  some y4.2.1))
theorem p_dring_powers_eq (N : Nat) (x : Ds []) : funL p_dring_powers_E p_dring_powers_H (p_dring_powers_l8_L N) N Go.Proofs.Try.f60 p_dring_powers_c [] [.xs (.int .i32) 256] x = p_dring_powers N x := by kernel_rfl
theorem p_dring_powers_Eok (he_dring_times : SigOk Go.Proofs.Try.prog 61 ⟨[.int .i32, .int .i32], [.int .i32], g_dring_times⟩) (he_bits_Reverse8 : SigOk Go.Proofs.Try.prog 78 ⟨[.int .u8], [.int .u8], g_bits_Reverse8⟩) : p_dring_powers_E.Ok Go.Proofs.Try.prog := AE.of_ok (all_cons ty3_ok (all_cons ty5_ok (all_cons ty21_ok (all_cons ty22_ok all_nil)))) (all_cons ⟨he_dring_times, enters_dring_times⟩ (all_cons ⟨he_bits_Reverse8, enters_bits_Reverse8⟩ all_nil))
theorem p_dring_powers_ok (he_dring_times : SigOk Go.Proofs.Try.prog 61 ⟨[.int .i32, .int .i32], [.int .i32], g_dring_times⟩) (he_bits_Reverse8 : SigOk Go.Proofs.Try.prog 78 ⟨[.int .u8], [.int .u8], g_bits_Reverse8⟩) {g : Ds [] → Option (Rs [.xs (.int .i32) 256])} (hg : ∀ x r, g x = some r → ∃ N, p_dring_powers N x = some r) : SigOk Go.Proofs.Try.prog 60 ⟨[], [.xs (.int .i32) 256], g⟩ :=
  fun_of (E := p_dring_powers_E) (H := p_dring_powers_H) (L := fun N => p_dring_powers_l8_L N) (c := p_dring_powers_c) (ks := p_dring_powers_ks) (rs := p_dring_powers_rs) (F := p_dring_powers) (p_dring_powers_Eok he_dring_times he_bits_Reverse8) mix Go.Proofs.Try.func60 (by kernel_rfl) (fun N => p_dring_powers_l8_ok N) p_dring_powers_eq hg

/-! livery/dring.Ntt -/
noncomputable def p_dring_Ntt_E : AE := AE.of [(2, ty2), (21, ty21), (22, ty22), (23, ty23)] [(18, ⟨[.xs (.int .i32) 256], [.xs (.int .i32) 256], g_dring_Reduce⟩), (60, ⟨[], [.xs (.int .i32) 256], g_dring_powers⟩), (61, ⟨[.int .i32, .int .i32], [.int .i32], g_dring_times⟩), (59, ⟨[.int .i64], [.int .i32], g_dring_below⟩)]
noncomputable def p_dring_Ntt_H : Hints := [(5, [1, 2, 3, 4, 5]), (8, [1, 2, 3, 4, 5, 6]), (12, [1, 2, 3, 4, 5, 6, 7]), (2000000, [1, 2]), (2000001, [1, 2, 3, 4, 5]), (2000002, [1, 2, 3, 4, 5]), (2000003, [1, 2, 3, 4, 5, 6]), (2000004, [1, 2, 3, 4, 5, 6]), (2000005, [1, 2, 3, 4, 5, 6, 7]), (3000000, [2])]
noncomputable def p_dring_Ntt_c : Code := (Go.Proofs.Try.f31).body.getD .skip
noncomputable def p_dring_Ntt_l12_S : Shape where
  h := { tmps := [.any, .sc (.ptr 0 0 false), .sc (.ptr 1 0 false), .sc (.ptr 2 0 false), .sc (.int .i64), .sc (.int .i64), .sc (.int .i64), .sc (.int .i64), .any, .any, .any, .any, .any, .any, .any, .any, .any, .any, .any, .any, .any, .any, .any, .any, .any, .any, .any, .any, .any, .any, .any, .any, .any, .any, .any, .any, .any, .any, .any, .any, .any, .any, .any, .any, .any, .any, .any, .any, .any, .any, .any, .any, .any, .any, .any, .any, .any, .any, .any, .any, .any, .any, .any, .any], mem := [.live [.xs (.int .i32) (some 256)] (.own), .live [.xs (.int .i32) (some 256)] (.own), .live [.xs (.int .i32) (some 256)] (.own)] }
  ks := [.int, .int, .int, .int, .xs, .xs, .xs]
  st := fun x => { tmps := [.one .any, .one (.sc (.ptr 0 0 none)), .one (.sc (.ptr 1 0 none)), .one (.sc (.ptr 2 0 none)), .one (.sc (.int .i64 x.1)), .one (.sc (.int .i64 x.2.1)), .one (.sc (.int .i64 x.2.2.1)), .one (.sc (.int .i64 x.2.2.2.1)), .one .any, .one .any, .one .any, .one .any, .one .any, .one .any, .one .any, .one .any, .one .any, .one .any, .one .any, .one .any, .one .any, .one .any, .one .any, .one .any, .one .any, .one .any, .one .any, .one .any, .one .any, .one .any, .one .any, .one .any, .one .any, .one .any, .one .any, .one .any, .one .any, .one .any, .one .any, .one .any, .one .any, .one .any, .one .any, .one .any, .one .any, .one .any, .one .any, .one .any, .one .any, .one .any, .one .any, .one .any, .one .any, .one .any, .one .any, .one .any, .one .any, .one .any, .one .any, .one .any, .one .any, .one .any, .one .any, .one .any], mem := [.live { segs := [.xs (.int .i32) 256 x.2.2.2.2.1], own := .own }, .live { segs := [.xs (.int .i32) 256 x.2.2.2.2.2.1], own := .own }, .live { segs := [.xs (.int .i32) 256 x.2.2.2.2.2.2.1], own := .own }] }
noncomputable def p_dring_Ntt_l12_F (N : Nat) (β : Type) (x : (Int × Int × Int × Int × List Int × List Int × List Int × Unit)) (kn : (Int × Int × Int × Int × List Int × List Int × List Int × Unit) → Option β) (ke : ((Int × Int × Int × List Int × List Int × List Int × Unit)) → Option β) : Option β :=
  if (x.2.2.2.1 < (IntKind.i64.wrap (x.2.2.1 + x.2.1))) then
    if 0 ≤ x.1 then (
    if x.1 < 256 then (
    if (x.1.toNat) < 256 then (
    if 0 ≤ (IntKind.i64.wrap (x.2.2.2.1 + x.2.1)) then (
    if (IntKind.i64.wrap (x.2.2.2.1 + x.2.1)) < 256 then (
    if ((IntKind.i64.wrap (x.2.2.2.1 + x.2.1)).toNat) < 256 then (
    (g_dring_times ((List.getD x.2.2.2.2.2.2.1 (x.1.toNat) 0), (List.getD x.2.2.2.2.1 ((IntKind.i64.wrap (x.2.2.2.1 + x.2.1)).toNat) 0), ())).bind fun r3 => (
    if 0 ≤ x.2.2.2.1 then (
    if x.2.2.2.1 < 256 then (
    if (x.2.2.2.1.toNat) < 256 then (
    (g_dring_below ((IntKind.i64.wrap ((IntKind.i64.wrap (List.getD x.2.2.2.2.1 (x.2.2.2.1.toNat) 0)) + (IntKind.i64.wrap r3))), ())).bind fun r4 => (
    if 0 ≤ x.2.2.2.1 then (
    if x.2.2.2.1 < 256 then (
    if (x.2.2.2.1.toNat) < 256 then (
    (g_dring_below ((IntKind.i64.wrap ((IntKind.i64.wrap (List.getD x.2.2.2.2.1 (x.2.2.2.1.toNat) 0)) - (IntKind.i64.wrap r3))), ())).bind fun r5 => (
    if 0 ≤ x.2.2.2.1 then (
    if x.2.2.2.1 < 256 then (
    if (x.2.2.2.1.toNat) < 256 then (
    if 0 ≤ (IntKind.i64.wrap (x.2.2.2.1 + x.2.1)) then (
    if (IntKind.i64.wrap (x.2.2.2.1 + x.2.1)) < 256 then (
    if ((IntKind.i64.wrap (x.2.2.2.1 + x.2.1)).toNat) < 256 then (
    kn (x.1, x.2.1, x.2.2.1, (IntKind.i64.wrap (x.2.2.2.1 + (1:Int))), (List.set (List.set x.2.2.2.2.1 (x.2.2.2.1.toNat) r4) ((IntKind.i64.wrap (x.2.2.2.1 + x.2.1)).toNat) r5), x.2.2.2.2.2.1, x.2.2.2.2.2.2.1, ())) else none) else none) else none) else none) else none) else none)) else none) else none) else none)) else none) else none) else none)) else none) else none) else none) else none) else none) else none
  else
    ke (x.1, x.2.1, x.2.2.1, x.2.2.2.2.1, x.2.2.2.2.2.1, x.2.2.2.2.2.2.1, ())
noncomputable def p_dring_Ntt_l12_go : Go' ((Int × Int × Int × List Int × List Int × List Int × Unit)) := fun y K => K (.exit 4) { tmps := [.one .any, .one (.sc (.ptr 0 0 none)), .one (.sc (.ptr 1 0 none)), .one (.sc (.ptr 2 0 none)), .one (.sc (.int .i64 y.1)), .one (.sc (.int .i64 y.2.1)), .one (.sc (.int .i64 y.2.2.1)), .one .any, .one .any, .one .any, .one .any, .one .any, .one .any, .one .any, .one .any, .one .any, .one .any, .one .any, .one .any, .one .any, .one .any, .one .any, .one .any, .one .any, .one .any, .one .any, .one .any, .one .any, .one .any, .one .any, .one .any, .one .any, .one .any, .one .any, .one .any, .one .any, .one .any, .one .any, .one .any, .one .any, .one .any, .one .any, .one .any, .one .any, .one .any, .one .any, .one .any, .one .any, .one .any, .one .any, .one .any, .one .any, .one .any, .one .any, .one .any, .one .any, .one .any, .one .any, .one .any, .one .any, .one .any, .one .any, .one .any, .one .any], mem := [.live { segs := [.xs (.int .i32) 256 y.2.2.2.1], own := .own }, .live { segs := [.xs (.int .i32) 256 y.2.2.2.2.1], own := .own }, .live { segs := [.xs (.int .i32) 256 y.2.2.2.2.2.1], own := .own }] }
noncomputable def p_dring_Ntt_l12_L (N : Nat) : LT := upd (LT.nil) 12 (loopE p_dring_Ntt_l12_S N (p_dring_Ntt_l12_F N) p_dring_Ntt_l12_go)
theorem p_dring_Ntt_l12_ok (N : Nat) : OkAll p_dring_Ntt_E p_dring_Ntt_H N (p_dring_Ntt_l12_L N) (subs p_dring_Ntt_c) :=
  addLoop (c := theLoop 12 p_dring_Ntt_c) (OkAll.nil) (by kernel_rfl) (fun x => by kernel_rfl) (fun β x kn ke => by kernel_rfl)
noncomputable def p_dring_Ntt_l8_S : Shape where
  h := { tmps := [.any, .sc (.ptr 0 0 false), .sc (.ptr 1 0 false), .sc (.ptr 2 0 false), .sc (.int .i64), .sc (.int .i64), .sc (.int .i64), .any, .any, .any, .any, .any, .any, .any, .any, .any, .any, .any, .any, .any, .any, .any, .any, .any, .any, .any, .any, .any, .any, .any, .any, .any, .any, .any, .any, .any, .any, .any, .any, .any, .any, .any, .any, .any, .any, .any, .any, .any, .any, .any, .any, .any, .any, .any, .any, .any, .any, .any, .any, .any, .any, .any, .any, .any], mem := [.live [.xs (.int .i32) (some 256)] (.own), .live [.xs (.int .i32) (some 256)] (.own), .live [.xs (.int .i32) (some 256)] (.own)] }
  ks := [.int, .int, .int, .xs, .xs, .xs]
  st := fun x => { tmps := [.one .any, .one (.sc (.ptr 0 0 none)), .one (.sc (.ptr 1 0 none)), .one (.sc (.ptr 2 0 none)), .one (.sc (.int .i64 x.1)), .one (.sc (.int .i64 x.2.1)), .one (.sc (.int .i64 x.2.2.1)), .one .any, .one .any, .one .any, .one .any, .one .any, .one .any, .one .any, .one .any, .one .any, .one .any, .one .any, .one .any, .one .any, .one .any, .one .any, .one .any, .one .any, .one .any, .one .any, .one .any, .one .any, .one .any, .one .any, .one .any, .one .any, .one .any, .one .any, .one .any, .one .any, .one .any, .one .any, .one .any, .one .any, .one .any, .one .any, .one .any, .one .any, .one .any, .one .any, .one .any, .one .any, .one .any, .one .any, .one .any, .one .any, .one .any, .one .any, .one .any, .one .any, .one .any, .one .any, .one .any, .one .any, .one .any, .one .any, .one .any, .one .any], mem := [.live { segs := [.xs (.int .i32) 256 x.2.2.2.1], own := .own }, .live { segs := [.xs (.int .i32) 256 x.2.2.2.2.1], own := .own }, .live { segs := [.xs (.int .i32) 256 x.2.2.2.2.2.1], own := .own }] }
noncomputable def p_dring_Ntt_l8_F (N : Nat) (β : Type) (x : (Int × Int × Int × List Int × List Int × List Int × Unit)) (kn : (Int × Int × Int × List Int × List Int × List Int × Unit) → Option β) (ke : ((Int × Int × List Int × List Int × List Int × Unit)) → Option β) : Option β :=
  if (x.2.2.1 < (256:Int)) then
    iter (p_dring_Ntt_l12_F N) N ((IntKind.i64.wrap (x.1 + (1:Int))), x.2.1, x.2.2.1, x.2.2.1, x.2.2.2.1, x.2.2.2.2.1, x.2.2.2.2.2.1, ()) fun y6 => (
    kn (y6.1, y6.2.1, (IntKind.i64.wrap (y6.2.2.1 + (IntKind.i64.wrap ((2:Int) * y6.2.1)))), y6.2.2.2.1, y6.2.2.2.2.1, y6.2.2.2.2.2.1, ()))
  else
    ke (x.1, x.2.1, x.2.2.2.1, x.2.2.2.2.1, x.2.2.2.2.2.1, ())
noncomputable def p_dring_Ntt_l8_go : Go' ((Int × Int × List Int × List Int × List Int × Unit)) := fun y K => K (.exit 2) { tmps := [.one .any, .one (.sc (.ptr 0 0 none)), .one (.sc (.ptr 1 0 none)), .one (.sc (.ptr 2 0 none)), .one (.sc (.int .i64 y.1)), .one (.sc (.int .i64 y.2.1)), .one .any, .one .any, .one .any, .one .any, .one .any, .one .any, .one .any, .one .any, .one .any, .one .any, .one .any, .one .any, .one .any, .one .any, .one .any, .one .any, .one .any, .one .any, .one .any, .one .any, .one .any, .one .any, .one .any, .one .any, .one .any, .one .any, .one .any, .one .any, .one .any, .one .any, .one .any, .one .any, .one .any, .one .any, .one .any, .one .any, .one .any, .one .any, .one .any, .one .any, .one .any, .one .any, .one .any, .one .any, .one .any, .one .any, .one .any, .one .any, .one .any, .one .any, .one .any, .one .any, .one .any, .one .any, .one .any, .one .any, .one .any, .one .any], mem := [.live { segs := [.xs (.int .i32) 256 y.2.2.1], own := .own }, .live { segs := [.xs (.int .i32) 256 y.2.2.2.1], own := .own }, .live { segs := [.xs (.int .i32) 256 y.2.2.2.2.1], own := .own }] }
noncomputable def p_dring_Ntt_l8_L (N : Nat) : LT := upd (p_dring_Ntt_l12_L N) 8 (loopE p_dring_Ntt_l8_S N (p_dring_Ntt_l8_F N) p_dring_Ntt_l8_go)
theorem p_dring_Ntt_l8_ok (N : Nat) : OkAll p_dring_Ntt_E p_dring_Ntt_H N (p_dring_Ntt_l8_L N) (subs p_dring_Ntt_c) :=
  addLoop (c := theLoop 8 p_dring_Ntt_c) (p_dring_Ntt_l12_ok N) (by kernel_rfl) (fun x => by kernel_rfl) (fun β x kn ke => by kernel_rfl)
noncomputable def p_dring_Ntt_l5_S : Shape where
  h := { tmps := [.any, .sc (.ptr 0 0 false), .sc (.ptr 1 0 false), .sc (.ptr 2 0 false), .sc (.int .i64), .sc (.int .i64), .any, .any, .any, .any, .any, .any, .any, .any, .any, .any, .any, .any, .any, .any, .any, .any, .any, .any, .any, .any, .any, .any, .any, .any, .any, .any, .any, .any, .any, .any, .any, .any, .any, .any, .any, .any, .any, .any, .any, .any, .any, .any, .any, .any, .any, .any, .any, .any, .any, .any, .any, .any, .any, .any, .any, .any, .any, .any], mem := [.live [.xs (.int .i32) (some 256)] (.own), .live [.xs (.int .i32) (some 256)] (.own), .live [.xs (.int .i32) (some 256)] (.own)] }
  ks := [.int, .int, .xs, .xs, .xs]
  st := fun x => { tmps := [.one .any, .one (.sc (.ptr 0 0 none)), .one (.sc (.ptr 1 0 none)), .one (.sc (.ptr 2 0 none)), .one (.sc (.int .i64 x.1)), .one (.sc (.int .i64 x.2.1)), .one .any, .one .any, .one .any, .one .any, .one .any, .one .any, .one .any, .one .any, .one .any, .one .any, .one .any, .one .any, .one .any, .one .any, .one .any, .one .any, .one .any, .one .any, .one .any, .one .any, .one .any, .one .any, .one .any, .one .any, .one .any, .one .any, .one .any, .one .any, .one .any, .one .any, .one .any, .one .any, .one .any, .one .any, .one .any, .one .any, .one .any, .one .any, .one .any, .one .any, .one .any, .one .any, .one .any, .one .any, .one .any, .one .any, .one .any, .one .any, .one .any, .one .any, .one .any, .one .any, .one .any, .one .any, .one .any, .one .any, .one .any, .one .any], mem := [.live { segs := [.xs (.int .i32) 256 x.2.2.1], own := .own }, .live { segs := [.xs (.int .i32) 256 x.2.2.2.1], own := .own }, .live { segs := [.xs (.int .i32) 256 x.2.2.2.2.1], own := .own }] }
noncomputable def p_dring_Ntt_l5_F (N : Nat) (β : Type) (x : (Int × Int × List Int × List Int × List Int × Unit)) (kn : (Int × Int × List Int × List Int × List Int × Unit) → Option β) (ke : ((List Int × List Int × Unit)) → Option β) : Option β :=
  if (x.2.1 ≥ (1:Int)) then
    iter (p_dring_Ntt_l8_F N) N (x.1, x.2.1, (0:Int), x.2.2.1, x.2.2.2.1, x.2.2.2.2.1, ()) fun y7 => (
    kn (y7.1, (IntKind.i64.wrap (Int.tdiv y7.2.1 (2:Int))), y7.2.2.1, y7.2.2.2.1, y7.2.2.2.2.1, ()))
  else
    ke (x.2.2.1, x.2.2.2.1, ())
noncomputable def p_dring_Ntt_l5_go : Go' ((List Int × List Int × Unit)) := fun y K => K (.exit 0) { tmps := [.one .any, .one (.sc (.ptr 0 0 none)), .one (.sc (.ptr 1 0 none)), .one .any, .one .any, .one .any, .one .any, .one .any, .one .any, .one .any, .one .any, .one .any, .one .any, .one .any, .one .any, .one .any, .one .any, .one .any, .one .any, .one .any, .one .any, .one .any, .one .any, .one .any, .one .any, .one .any, .one .any, .one .any, .one .any, .one .any, .one .any, .one .any, .one .any, .one .any, .one .any, .one .any, .one .any, .one .any, .one .any, .one .any, .one .any, .one .any, .one .any, .one .any, .one .any, .one .any, .one .any, .one .any, .one .any, .one .any, .one .any, .one .any, .one .any, .one .any, .one .any, .one .any, .one .any, .one .any, .one .any, .one .any, .one .any, .one .any, .one .any, .one .any], mem := [.live { segs := [.xs (.int .i32) 256 y.1], own := .own }, .live { segs := [.xs (.int .i32) 256 y.2.1], own := .own }] }
noncomputable def p_dring_Ntt_l5_L (N : Nat) : LT := upd (p_dring_Ntt_l8_L N) 5 (loopE p_dring_Ntt_l5_S N (p_dring_Ntt_l5_F N) p_dring_Ntt_l5_go)
theorem p_dring_Ntt_l5_ok (N : Nat) : OkAll p_dring_Ntt_E p_dring_Ntt_H N (p_dring_Ntt_l5_L N) (subs p_dring_Ntt_c) :=
  addLoop (c := theLoop 5 p_dring_Ntt_c) (p_dring_Ntt_l8_ok N) (by kernel_rfl) (fun x => by kernel_rfl) (fun β x kn ke => by kernel_rfl)
abbrev p_dring_Ntt_ks : List Kd := [.xs (.int .i32) 256]
abbrev p_dring_Ntt_rs : List Kd := [.xs (.int .i32) 256]
noncomputable def p_dring_Ntt (N : Nat) (x : List Int × Unit) : Option (List Int) :=
  (g_dring_Reduce (x.1, ())).bind fun r1 => (
  (g_dring_powers (())).bind fun r2 => (
  iter (p_dring_Ntt_l5_F N) N ((0:Int), (128:Int), r1, (List.replicate 256 0), r2, ()) fun y8 => (
  some y8.1)))
theorem p_dring_Ntt_eq (N : Nat) (x : Ds [.xs (.int .i32) 256]) : funL p_dring_Ntt_E p_dring_Ntt_H (p_dring_Ntt_l5_L N) N Go.Proofs.Try.f31 p_dring_Ntt_c [.xs (.int .i32) 256] [.xs (.int .i32) 256] x = p_dring_Ntt N x := by kernel_rfl
theorem p_dring_Ntt_Eok (he_dring_Reduce : SigOk Go.Proofs.Try.prog 18 ⟨[.xs (.int .i32) 256], [.xs (.int .i32) 256], g_dring_Reduce⟩) (he_dring_powers : SigOk Go.Proofs.Try.prog 60 ⟨[], [.xs (.int .i32) 256], g_dring_powers⟩) (he_dring_times : SigOk Go.Proofs.Try.prog 61 ⟨[.int .i32, .int .i32], [.int .i32], g_dring_times⟩) (he_dring_below : SigOk Go.Proofs.Try.prog 59 ⟨[.int .i64], [.int .i32], g_dring_below⟩) : p_dring_Ntt_E.Ok Go.Proofs.Try.prog := AE.of_ok (all_cons ty2_ok (all_cons ty21_ok (all_cons ty22_ok (all_cons ty23_ok all_nil)))) (all_cons ⟨he_dring_Reduce, enters_dring_Reduce⟩ (all_cons ⟨he_dring_powers, enters_dring_powers⟩ (all_cons ⟨he_dring_times, enters_dring_times⟩ (all_cons ⟨he_dring_below, enters_dring_below⟩ all_nil))))
theorem p_dring_Ntt_ok (he_dring_Reduce : SigOk Go.Proofs.Try.prog 18 ⟨[.xs (.int .i32) 256], [.xs (.int .i32) 256], g_dring_Reduce⟩) (he_dring_powers : SigOk Go.Proofs.Try.prog 60 ⟨[], [.xs (.int .i32) 256], g_dring_powers⟩) (he_dring_times : SigOk Go.Proofs.Try.prog 61 ⟨[.int .i32, .int .i32], [.int .i32], g_dring_times⟩) (he_dring_below : SigOk Go.Proofs.Try.prog 59 ⟨[.int .i64], [.int .i32], g_dring_below⟩) {g : Ds [.xs (.int .i32) 256] → Option (Rs [.xs (.int .i32) 256])} (hg : ∀ x r, g x = some r → ∃ N, p_dring_Ntt N x = some r) : SigOk Go.Proofs.Try.prog 31 ⟨[.xs (.int .i32) 256], [.xs (.int .i32) 256], g⟩ :=
  fun_of (E := p_dring_Ntt_E) (H := p_dring_Ntt_H) (L := fun N => p_dring_Ntt_l5_L N) (c := p_dring_Ntt_c) (ks := p_dring_Ntt_ks) (rs := p_dring_Ntt_rs) (F := p_dring_Ntt) (p_dring_Ntt_Eok he_dring_Reduce he_dring_powers he_dring_times he_dring_below) mix Go.Proofs.Try.func31 (by kernel_rfl) (fun N => p_dring_Ntt_l5_ok N) p_dring_Ntt_eq hg

/-! livery/dring.Inv$1 -/
noncomputable def p_dring_Inv_1_E : AE := AE.of [] [(61, ⟨[.int .i32, .int .i32], [.int .i32], g_dring_times⟩)]
noncomputable def p_dring_Inv_1_H : Hints := [(3000000, [2])]
noncomputable def p_dring_Inv_1_c : Code := (Go.Proofs.Try.f64).body.getD .skip
abbrev p_dring_Inv_1_ks : List Kd := [.int .i32]
abbrev p_dring_Inv_1_rs : List Kd := [.int .i32]
noncomputable def p_dring_Inv_1 (N : Nat) (x : Int × Unit) : Option (Int) :=
  (g_dring_times (x.1, (8347681:Int), ())).bind fun r1 => (
  some r1)
theorem p_dring_Inv_1_eq (N : Nat) (x : Ds [.int .i32]) : funL p_dring_Inv_1_E p_dring_Inv_1_H (LT.nil) N Go.Proofs.Try.f64 p_dring_Inv_1_c [.int .i32] [.int .i32] x = p_dring_Inv_1 N x := by kernel_rfl
theorem p_dring_Inv_1_Eok (he_dring_times : SigOk Go.Proofs.Try.prog 61 ⟨[.int .i32, .int .i32], [.int .i32], g_dring_times⟩) : p_dring_Inv_1_E.Ok Go.Proofs.Try.prog := AE.of_ok all_nil (all_cons ⟨he_dring_times, enters_dring_times⟩ all_nil)
theorem p_dring_Inv_1_ok (he_dring_times : SigOk Go.Proofs.Try.prog 61 ⟨[.int .i32, .int .i32], [.int .i32], g_dring_times⟩) {g : Ds [.int .i32] → Option (Rs [.int .i32])} (hg : ∀ x r, g x = some r → ∃ N, p_dring_Inv_1 N x = some r) : SigOk Go.Proofs.Try.prog 64 ⟨[.int .i32], [.int .i32], g⟩ :=
  fun_of (E := p_dring_Inv_1_E) (H := p_dring_Inv_1_H) (L := fun N => LT.nil) (c := p_dring_Inv_1_c) (ks := p_dring_Inv_1_ks) (rs := p_dring_Inv_1_rs) (F := p_dring_Inv_1) (p_dring_Inv_1_Eok he_dring_times) mix Go.Proofs.Try.func64 (by kernel_rfl) (fun N => OkAll.nil) p_dring_Inv_1_eq hg

/-! livery/dring.each -/
noncomputable def p_dring_each__dring_Inv_1_E : AE := AE.of [(21, ty21), (23, ty23)] [(64, ⟨[.int .i32], [.int .i32], g_dring_Inv_1⟩)]
noncomputable def p_dring_each__dring_Inv_1_H : Hints := [(2, [1, 2, 4, 7, 8]), (2000000, [2, 4]), (2000001, [1, 2, 4, 7, 8]), (3000000, [4])]
noncomputable def p_dring_each__dring_Inv_1_c : Code := (Go.Proofs.Try.f57).body.getD .skip
noncomputable def p_dring_each__dring_Inv_1_l2_S : Shape where
  h := { tmps := [.any, .sc (.fn 64), .sc (.ptr 0 0 false), .any, .sc (.ptr 1 0 false), .any, .any, .agg [.xs (.int .i32) (some 256)], .sc (.int .i64), .any, .any, .any, .any, .any, .any, .any, .any, .any, .any], mem := [.live [.xs (.int .i32) (some 256)] (.own), .live [.xs (.int .i32) (some 256)] (.own)] }
  ks := [.xs, .int, .xs, .xs]
  st := fun x => { tmps := [.one .any, .one (.sc (.fn 64)), .one (.sc (.ptr 0 0 none)), .one .any, .one (.sc (.ptr 1 0 none)), .one .any, .one .any, .one (.agg [.xs (.int .i32) 256 x.1]), .one (.sc (.int .i64 x.2.1)), .one .any, .one .any, .one .any, .one .any, .one .any, .one .any, .one .any, .one .any, .one .any, .one .any], mem := [.live { segs := [.xs (.int .i32) 256 x.2.2.1], own := .own }, .live { segs := [.xs (.int .i32) 256 x.2.2.2.1], own := .own }] }
noncomputable def p_dring_each__dring_Inv_1_l2_F (N : Nat) (β : Type) (x : (List Int × Int × List Int × List Int × Unit)) (kn : (List Int × Int × List Int × List Int × Unit) → Option β) (ke : ((List Int × List Int × Unit)) → Option β) : Option β :=
  if (x.2.1 < (256:Int)) then
    if 0 ≤ x.2.1 then (
    if x.2.1 < 256 then (
    if (x.2.1.toNat) < 256 then (
    (g_dring_Inv_1 ((List.getD x.1 (x.2.1.toNat) 0), ())).bind fun r1 => (
    if 0 ≤ x.2.1 then (
    if x.2.1 < 256 then (
    if (x.2.1.toNat) < 256 then (
    kn (x.1, (IntKind.i64.wrap (x.2.1 + (1:Int))), (List.set x.2.2.1 (x.2.1.toNat) r1), x.2.2.2.1, ())) else none) else none) else none)) else none) else none) else none
  else
    ke (x.2.2.1, x.2.2.2.1, ())
noncomputable def p_dring_each__dring_Inv_1_l2_go : Go' ((List Int × List Int × Unit)) := fun y K => K (.exit 0) { tmps := [.one .any, .one .any, .one (.sc (.ptr 0 0 none)), .one .any, .one (.sc (.ptr 1 0 none)), .one .any, .one .any, .one .any, .one .any, .one .any, .one .any, .one .any, .one .any, .one .any, .one .any, .one .any, .one .any, .one .any, .one .any], mem := [.live { segs := [.xs (.int .i32) 256 y.1], own := .own }, .live { segs := [.xs (.int .i32) 256 y.2.1], own := .own }] }
noncomputable def p_dring_each__dring_Inv_1_l2_L (N : Nat) : LT := upd (LT.nil) 2 (loopE p_dring_each__dring_Inv_1_l2_S N (p_dring_each__dring_Inv_1_l2_F N) p_dring_each__dring_Inv_1_l2_go)
theorem p_dring_each__dring_Inv_1_l2_ok (N : Nat) : OkAll p_dring_each__dring_Inv_1_E p_dring_each__dring_Inv_1_H N (p_dring_each__dring_Inv_1_l2_L N) (subs p_dring_each__dring_Inv_1_c) :=
  addLoop (c := theLoop 2 p_dring_each__dring_Inv_1_c) (OkAll.nil) (by kernel_rfl) (fun x => by kernel_rfl) (fun β x kn ke => by kernel_rfl)
abbrev p_dring_each__dring_Inv_1_ks : List Kd := [.xs (.int .i32) 256, .fnc 64]
abbrev p_dring_each__dring_Inv_1_rs : List Kd := [.xs (.int .i32) 256]
noncomputable def p_dring_each__dring_Inv_1 (N : Nat) (x : List Int × Unit × Unit) : Option (List Int) :=
  iter (p_dring_each__dring_Inv_1_l2_F N) N (x.1, (0:Int), x.1, (List.replicate 256 0), ()) fun y2 => (
  some y2.1)
theorem p_dring_each__dring_Inv_1_eq (N : Nat) (x : Ds [.xs (.int .i32) 256, .fnc 64]) : funL p_dring_each__dring_Inv_1_E p_dring_each__dring_Inv_1_H (p_dring_each__dring_Inv_1_l2_L N) N Go.Proofs.Try.f57 p_dring_each__dring_Inv_1_c [.xs (.int .i32) 256, .fnc 64] [.xs (.int .i32) 256] x = p_dring_each__dring_Inv_1 N x := by kernel_rfl
theorem p_dring_each__dring_Inv_1_Eok (he_dring_Inv_1 : SigOk Go.Proofs.Try.prog 64 ⟨[.int .i32], [.int .i32], g_dring_Inv_1⟩) : p_dring_each__dring_Inv_1_E.Ok Go.Proofs.Try.prog := AE.of_ok (all_cons ty21_ok (all_cons ty23_ok all_nil)) (all_cons ⟨he_dring_Inv_1, enters_dring_Inv_1⟩ all_nil)
theorem p_dring_each__dring_Inv_1_ok (he_dring_Inv_1 : SigOk Go.Proofs.Try.prog 64 ⟨[.int .i32], [.int .i32], g_dring_Inv_1⟩) {g : Ds [.xs (.int .i32) 256, .fnc 64] → Option (Rs [.xs (.int .i32) 256])} (hg : ∀ x r, g x = some r → ∃ N, p_dring_each__dring_Inv_1 N x = some r) : SigOk Go.Proofs.Try.prog 57 ⟨[.xs (.int .i32) 256, .fnc 64], [.xs (.int .i32) 256], g⟩ :=
  fun_of (E := p_dring_each__dring_Inv_1_E) (H := p_dring_each__dring_Inv_1_H) (L := fun N => p_dring_each__dring_Inv_1_l2_L N) (c := p_dring_each__dring_Inv_1_c) (ks := p_dring_each__dring_Inv_1_ks) (rs := p_dring_each__dring_Inv_1_rs) (F := p_dring_each__dring_Inv_1) (p_dring_each__dring_Inv_1_Eok he_dring_Inv_1) mix Go.Proofs.Try.func57 (by kernel_rfl) (fun N => p_dring_each__dring_Inv_1_l2_ok N) p_dring_each__dring_Inv_1_eq hg

/-! livery/dring.Inv -/
noncomputable def p_dring_Inv_E : AE := AE.of [(2, ty2), (21, ty21), (22, ty22), (23, ty23)] [(18, ⟨[.xs (.int .i32) 256], [.xs (.int .i32) 256], g_dring_Reduce⟩), (60, ⟨[], [.xs (.int .i32) 256], g_dring_powers⟩), (59, ⟨[.int .i64], [.int .i32], g_dring_below⟩), (61, ⟨[.int .i32, .int .i32], [.int .i32], g_dring_times⟩), (57, ⟨[.xs (.int .i32) 256, .fnc 64], [.xs (.int .i32) 256], g_dring_each__dring_Inv_1⟩)]
noncomputable def p_dring_Inv_H : Hints := [(5, [1, 2, 3, 4, 5]), (8, [1, 2, 3, 4, 5, 6]), (12, [1, 2, 3, 4, 5, 6, 7]), (2000000, [1, 2]), (2000001, [1, 2, 3, 4, 5]), (2000002, [1, 2, 3, 4, 5]), (2000003, [1, 2, 3, 4, 5, 6]), (2000004, [1, 2, 3, 4, 5, 6]), (2000005, [1, 2, 3, 4, 5, 6, 7]), (3000000, [2])]
noncomputable def p_dring_Inv_c : Code := (Go.Proofs.Try.f34).body.getD .skip
noncomputable def p_dring_Inv_l12_S : Shape where
  h := { tmps := [.any, .sc (.ptr 0 0 false), .sc (.ptr 1 0 false), .sc (.ptr 2 0 false), .sc (.int .i64), .sc (.int .i64), .sc (.int .i64), .sc (.int .i64), .any, .any, .any, .any, .any, .any, .any, .any, .any, .any, .any, .any, .any, .any, .any, .any, .any, .any, .any, .any, .any, .any, .any, .any, .any, .any, .any, .any, .any, .any, .any, .any, .any, .any, .any, .any, .any, .any, .any, .any, .any, .any, .any, .any, .any, .any, .any, .any, .any, .any, .any, .any, .any, .any], mem := [.live [.xs (.int .i32) (some 256)] (.own), .live [.xs (.int .i32) (some 256)] (.own), .live [.xs (.int .i32) (some 256)] (.own)] }
  ks := [.int, .int, .int, .int, .xs, .xs, .xs]
  st := fun x => { tmps := [.one .any, .one (.sc (.ptr 0 0 none)), .one (.sc (.ptr 1 0 none)), .one (.sc (.ptr 2 0 none)), .one (.sc (.int .i64 x.1)), .one (.sc (.int .i64 x.2.1)), .one (.sc (.int .i64 x.2.2.1)), .one (.sc (.int .i64 x.2.2.2.1)), .one .any, .one .any, .one .any, .one .any, .one .any, .one .any, .one .any, .one .any, .one .any, .one .any, .one .any, .one .any, .one .any, .one .any, .one .any, .one .any, .one .any, .one .any, .one .any, .one .any, .one .any, .one .any, .one .any, .one .any, .one .any, .one .any, .one .any, .one .any, .one .any, .one .any, .one .any, .one .any, .one .any, .one .any, .one .any, .one .any, .one .any, .one .any, .one .any, .one .any, .one .any, .one .any, .one .any, .one .any, .one .any, .one .any, .one .any, .one .any, .one .any, .one .any, .one .any, .one .any, .one .any, .one .any], mem := [.live { segs := [.xs (.int .i32) 256 x.2.2.2.2.1], own := .own }, .live { segs := [.xs (.int .i32) 256 x.2.2.2.2.2.1], own := .own }, .live { segs := [.xs (.int .i32) 256 x.2.2.2.2.2.2.1], own := .own }] }
noncomputable def p_dring_Inv_l12_F (N : Nat) (β : Type) (x : (Int × Int × Int × Int × List Int × List Int × List Int × Unit)) (kn : (Int × Int × Int × Int × List Int × List Int × List Int × Unit) → Option β) (ke : ((Int × Int × Int × List Int × List Int × List Int × Unit)) → Option β) : Option β :=
  if (x.2.2.2.1 < (IntKind.i64.wrap (x.2.2.1 + x.2.1))) then
    if 0 ≤ x.2.2.2.1 then (
    if x.2.2.2.1 < 256 then (
    if (x.2.2.2.1.toNat) < 256 then (
    if 0 ≤ (IntKind.i64.wrap (x.2.2.2.1 + x.2.1)) then (
    if (IntKind.i64.wrap (x.2.2.2.1 + x.2.1)) < 256 then (
    if ((IntKind.i64.wrap (x.2.2.2.1 + x.2.1)).toNat) < 256 then (
    (g_dring_below ((IntKind.i64.wrap ((IntKind.i64.wrap (List.getD x.2.2.2.2.1 (x.2.2.2.1.toNat) 0)) + (IntKind.i64.wrap (List.getD x.2.2.2.2.1 ((IntKind.i64.wrap (x.2.2.2.1 + x.2.1)).toNat) 0)))), ())).bind fun r3 => (
    if 0 ≤ x.1 then (
    if x.1 < 256 then (
    if (x.1.toNat) < 256 then (
    (g_dring_times ((List.getD x.2.2.2.2.2.2.1 (x.1.toNat) 0), (IntKind.i32.wrap ((List.getD x.2.2.2.2.1 ((IntKind.i64.wrap (x.2.2.2.1 + x.2.1)).toNat) 0) - (List.getD x.2.2.2.2.1 (x.2.2.2.1.toNat) 0))), ())).bind fun r4 => (
    if 0 ≤ x.2.2.2.1 then (
    if x.2.2.2.1 < 256 then (
    if (x.2.2.2.1.toNat) < 256 then (
    if 0 ≤ (IntKind.i64.wrap (x.2.2.2.1 + x.2.1)) then (
    if (IntKind.i64.wrap (x.2.2.2.1 + x.2.1)) < 256 then (
    if ((IntKind.i64.wrap (x.2.2.2.1 + x.2.1)).toNat) < 256 then (
    kn (x.1, x.2.1, x.2.2.1, (IntKind.i64.wrap (x.2.2.2.1 + (1:Int))), (List.set (List.set x.2.2.2.2.1 (x.2.2.2.1.toNat) r3) ((IntKind.i64.wrap (x.2.2.2.1 + x.2.1)).toNat) r4), x.2.2.2.2.2.1, x.2.2.2.2.2.2.1, ())) else none) else none) else none) else none) else none) else none)) else none) else none) else none)) else none) else none) else none) else none) else none) else none
  else
    ke (x.1, x.2.1, x.2.2.1, x.2.2.2.2.1, x.2.2.2.2.2.1, x.2.2.2.2.2.2.1, ())
noncomputable def p_dring_Inv_l12_go : Go' ((Int × Int × Int × List Int × List Int × List Int × Unit)) := fun y K => K (.exit 4) { tmps := [.one .any, .one (.sc (.ptr 0 0 none)), .one (.sc (.ptr 1 0 none)), .one (.sc (.ptr 2 0 none)), .one (.sc (.int .i64 y.1)), .one (.sc (.int .i64 y.2.1)), .one (.sc (.int .i64 y.2.2.1)), .one .any, .one .any, .one .any, .one .any, .one .any, .one .any, .one .any, .one .any, .one .any, .one .any, .one .any, .one .any, .one .any, .one .any, .one .any, .one .any, .one .any, .one .any, .one .any, .one .any, .one .any, .one .any, .one .any, .one .any, .one .any, .one .any, .one .any, .one .any, .one .any, .one .any, .one .any, .one .any, .one .any, .one .any, .one .any, .one .any, .one .any, .one .any, .one .any, .one .any, .one .any, .one .any, .one .any, .one .any, .one .any, .one .any, .one .any, .one .any, .one .any, .one .any, .one .any, .one .any, .one .any, .one .any, .one .any], mem := [.live { segs := [.xs (.int .i32) 256 y.2.2.2.1], own := .own }, .live { segs := [.xs (.int .i32) 256 y.2.2.2.2.1], own := .own }, .live { segs := [.xs (.int .i32) 256 y.2.2.2.2.2.1], own := .own }] }
noncomputable def p_dring_Inv_l12_L (N : Nat) : LT := upd (LT.nil) 12 (loopE p_dring_Inv_l12_S N (p_dring_Inv_l12_F N) p_dring_Inv_l12_go)
theorem p_dring_Inv_l12_ok (N : Nat) : OkAll p_dring_Inv_E p_dring_Inv_H N (p_dring_Inv_l12_L N) (subs p_dring_Inv_c) :=
  addLoop (c := theLoop 12 p_dring_Inv_c) (OkAll.nil) (by kernel_rfl) (fun x => by kernel_rfl) (fun β x kn ke => by kernel_rfl)
noncomputable def p_dring_Inv_l8_S : Shape where
  h := { tmps := [.any, .sc (.ptr 0 0 false), .sc (.ptr 1 0 false), .sc (.ptr 2 0 false), .sc (.int .i64), .sc (.int .i64), .sc (.int .i64), .any, .any, .any, .any, .any, .any, .any, .any, .any, .any, .any, .any, .any, .any, .any, .any, .any, .any, .any, .any, .any, .any, .any, .any, .any, .any, .any, .any, .any, .any, .any, .any, .any, .any, .any, .any, .any, .any, .any, .any, .any, .any, .any, .any, .any, .any, .any, .any, .any, .any, .any, .any, .any, .any, .any], mem := [.live [.xs (.int .i32) (some 256)] (.own), .live [.xs (.int .i32) (some 256)] (.own), .live [.xs (.int .i32) (some 256)] (.own)] }
  ks := [.int, .int, .int, .xs, .xs, .xs]
  st := fun x => { tmps := [.one .any, .one (.sc (.ptr 0 0 none)), .one (.sc (.ptr 1 0 none)), .one (.sc (.ptr 2 0 none)), .one (.sc (.int .i64 x.1)), .one (.sc (.int .i64 x.2.1)), .one (.sc (.int .i64 x.2.2.1)), .one .any, .one .any, .one .any, .one .any, .one .any, .one .any, .one .any, .one .any, .one .any, .one .any, .one .any, .one .any, .one .any, .one .any, .one .any, .one .any, .one .any, .one .any, .one .any, .one .any, .one .any, .one .any, .one .any, .one .any, .one .any, .one .any, .one .any, .one .any, .one .any, .one .any, .one .any, .one .any, .one .any, .one .any, .one .any, .one .any, .one .any, .one .any, .one .any, .one .any, .one .any, .one .any, .one .any, .one .any, .one .any, .one .any, .one .any, .one .any, .one .any, .one .any, .one .any, .one .any, .one .any, .one .any, .one .any], mem := [.live { segs := [.xs (.int .i32) 256 x.2.2.2.1], own := .own }, .live { segs := [.xs (.int .i32) 256 x.2.2.2.2.1], own := .own }, .live { segs := [.xs (.int .i32) 256 x.2.2.2.2.2.1], own := .own }] }
noncomputable def p_dring_Inv_l8_F (N : Nat) (β : Type) (x : (Int × Int × Int × List Int × List Int × List Int × Unit)) (kn : (Int × Int × Int × List Int × List Int × List Int × Unit) → Option β) (ke : ((Int × Int × List Int × List Int × List Int × Unit)) → Option β) : Option β :=
  if (x.2.2.1 < (256:Int)) then
    iter (p_dring_Inv_l12_F N) N ((IntKind.i64.wrap (x.1 - (1:Int))), x.2.1, x.2.2.1, x.2.2.1, x.2.2.2.1, x.2.2.2.2.1, x.2.2.2.2.2.1, ()) fun y5 => (
    kn (y5.1, y5.2.1, (IntKind.i64.wrap (y5.2.2.1 + (IntKind.i64.wrap ((2:Int) * y5.2.1)))), y5.2.2.2.1, y5.2.2.2.2.1, y5.2.2.2.2.2.1, ()))
  else
    ke (x.1, x.2.1, x.2.2.2.1, x.2.2.2.2.1, x.2.2.2.2.2.1, ())
noncomputable def p_dring_Inv_l8_go : Go' ((Int × Int × List Int × List Int × List Int × Unit)) := fun y K => K (.exit 2) { tmps := [.one .any, .one (.sc (.ptr 0 0 none)), .one (.sc (.ptr 1 0 none)), .one (.sc (.ptr 2 0 none)), .one (.sc (.int .i64 y.1)), .one (.sc (.int .i64 y.2.1)), .one .any, .one .any, .one .any, .one .any, .one .any, .one .any, .one .any, .one .any, .one .any, .one .any, .one .any, .one .any, .one .any, .one .any, .one .any, .one .any, .one .any, .one .any, .one .any, .one .any, .one .any, .one .any, .one .any, .one .any, .one .any, .one .any, .one .any, .one .any, .one .any, .one .any, .one .any, .one .any, .one .any, .one .any, .one .any, .one .any, .one .any, .one .any, .one .any, .one .any, .one .any, .one .any, .one .any, .one .any, .one .any, .one .any, .one .any, .one .any, .one .any, .one .any, .one .any, .one .any, .one .any, .one .any, .one .any, .one .any], mem := [.live { segs := [.xs (.int .i32) 256 y.2.2.1], own := .own }, .live { segs := [.xs (.int .i32) 256 y.2.2.2.1], own := .own }, .live { segs := [.xs (.int .i32) 256 y.2.2.2.2.1], own := .own }] }
noncomputable def p_dring_Inv_l8_L (N : Nat) : LT := upd (p_dring_Inv_l12_L N) 8 (loopE p_dring_Inv_l8_S N (p_dring_Inv_l8_F N) p_dring_Inv_l8_go)
theorem p_dring_Inv_l8_ok (N : Nat) : OkAll p_dring_Inv_E p_dring_Inv_H N (p_dring_Inv_l8_L N) (subs p_dring_Inv_c) :=
  addLoop (c := theLoop 8 p_dring_Inv_c) (p_dring_Inv_l12_ok N) (by kernel_rfl) (fun x => by kernel_rfl) (fun β x kn ke => by kernel_rfl)
noncomputable def p_dring_Inv_l5_S : Shape where
  h := { tmps := [.any, .sc (.ptr 0 0 false), .sc (.ptr 1 0 false), .sc (.ptr 2 0 false), .sc (.int .i64), .sc (.int .i64), .any, .any, .any, .any, .any, .any, .any, .any, .any, .any, .any, .any, .any, .any, .any, .any, .any, .any, .any, .any, .any, .any, .any, .any, .any, .any, .any, .any, .any, .any, .any, .any, .any, .any, .any, .any, .any, .any, .any, .any, .any, .any, .any, .any, .any, .any, .any, .any, .any, .any, .any, .any, .any, .any, .any, .any], mem := [.live [.xs (.int .i32) (some 256)] (.own), .live [.xs (.int .i32) (some 256)] (.own), .live [.xs (.int .i32) (some 256)] (.own)] }
  ks := [.int, .int, .xs, .xs, .xs]
  st := fun x => { tmps := [.one .any, .one (.sc (.ptr 0 0 none)), .one (.sc (.ptr 1 0 none)), .one (.sc (.ptr 2 0 none)), .one (.sc (.int .i64 x.1)), .one (.sc (.int .i64 x.2.1)), .one .any, .one .any, .one .any, .one .any, .one .any, .one .any, .one .any, .one .any, .one .any, .one .any, .one .any, .one .any, .one .any, .one .any, .one .any, .one .any, .one .any, .one .any, .one .any, .one .any, .one .any, .one .any, .one .any, .one .any, .one .any, .one .any, .one .any, .one .any, .one .any, .one .any, .one .any, .one .any, .one .any, .one .any, .one .any, .one .any, .one .any, .one .any, .one .any, .one .any, .one .any, .one .any, .one .any, .one .any, .one .any, .one .any, .one .any, .one .any, .one .any, .one .any, .one .any, .one .any, .one .any, .one .any, .one .any, .one .any], mem := [.live { segs := [.xs (.int .i32) 256 x.2.2.1], own := .own }, .live { segs := [.xs (.int .i32) 256 x.2.2.2.1], own := .own }, .live { segs := [.xs (.int .i32) 256 x.2.2.2.2.1], own := .own }] }
noncomputable def p_dring_Inv_l5_F (N : Nat) (β : Type) (x : (Int × Int × List Int × List Int × List Int × Unit)) (kn : (Int × Int × List Int × List Int × List Int × Unit) → Option β) (ke : ((List Int × List Int × Unit)) → Option β) : Option β :=
  if (x.2.1 ≤ (128:Int)) then
    iter (p_dring_Inv_l8_F N) N (x.1, x.2.1, (0:Int), x.2.2.1, x.2.2.2.1, x.2.2.2.2.1, ()) fun y6 => (
    kn (y6.1, (IntKind.i64.wrap (y6.2.1 * (2:Int))), y6.2.2.1, y6.2.2.2.1, y6.2.2.2.2.1, ()))
  else
    ke (x.2.2.1, x.2.2.2.1, ())
noncomputable def p_dring_Inv_l5_go : Go' ((List Int × List Int × Unit)) := fun y K => K (.exit 0) { tmps := [.one .any, .one (.sc (.ptr 0 0 none)), .one (.sc (.ptr 1 0 none)), .one .any, .one .any, .one .any, .one .any, .one .any, .one .any, .one .any, .one .any, .one .any, .one .any, .one .any, .one .any, .one .any, .one .any, .one .any, .one .any, .one .any, .one .any, .one .any, .one .any, .one .any, .one .any, .one .any, .one .any, .one .any, .one .any, .one .any, .one .any, .one .any, .one .any, .one .any, .one .any, .one .any, .one .any, .one .any, .one .any, .one .any, .one .any, .one .any, .one .any, .one .any, .one .any, .one .any, .one .any, .one .any, .one .any, .one .any, .one .any, .one .any, .one .any, .one .any, .one .any, .one .any, .one .any, .one .any, .one .any, .one .any, .one .any, .one .any], mem := [.live { segs := [.xs (.int .i32) 256 y.1], own := .own }, .live { segs := [.xs (.int .i32) 256 y.2.1], own := .own }] }
noncomputable def p_dring_Inv_l5_L (N : Nat) : LT := upd (p_dring_Inv_l8_L N) 5 (loopE p_dring_Inv_l5_S N (p_dring_Inv_l5_F N) p_dring_Inv_l5_go)
theorem p_dring_Inv_l5_ok (N : Nat) : OkAll p_dring_Inv_E p_dring_Inv_H N (p_dring_Inv_l5_L N) (subs p_dring_Inv_c) :=
  addLoop (c := theLoop 5 p_dring_Inv_c) (p_dring_Inv_l8_ok N) (by kernel_rfl) (fun x => by kernel_rfl) (fun β x kn ke => by kernel_rfl)
abbrev p_dring_Inv_ks : List Kd := [.xs (.int .i32) 256]
abbrev p_dring_Inv_rs : List Kd := [.xs (.int .i32) 256]
noncomputable def p_dring_Inv (N : Nat) (x : List Int × Unit) : Option (List Int) :=
  (g_dring_Reduce (x.1, ())).bind fun r1 => (
  (g_dring_powers (())).bind fun r2 => (
  iter (p_dring_Inv_l5_F N) N ((256:Int), (1:Int), r1, (List.replicate 256 0), r2, ()) fun y7 => (
  (g_dring_each__dring_Inv_1 (y7.1, (), ())).bind fun r8 => (
  some r8))))
theorem p_dring_Inv_eq (N : Nat) (x : Ds [.xs (.int .i32) 256]) : funL p_dring_Inv_E p_dring_Inv_H (p_dring_Inv_l5_L N) N Go.Proofs.Try.f34 p_dring_Inv_c [.xs (.int .i32) 256] [.xs (.int .i32) 256] x = p_dring_Inv N x := by kernel_rfl
theorem p_dring_Inv_Eok (he_dring_Reduce : SigOk Go.Proofs.Try.prog 18 ⟨[.xs (.int .i32) 256], [.xs (.int .i32) 256], g_dring_Reduce⟩) (he_dring_powers : SigOk Go.Proofs.Try.prog 60 ⟨[], [.xs (.int .i32) 256], g_dring_powers⟩) (he_dring_below : SigOk Go.Proofs.Try.prog 59 ⟨[.int .i64], [.int .i32], g_dring_below⟩) (he_dring_times : SigOk Go.Proofs.Try.prog 61 ⟨[.int .i32, .int .i32], [.int .i32], g_dring_times⟩) (he_dring_each__dring_Inv_1 : SigOk Go.Proofs.Try.prog 57 ⟨[.xs (.int .i32) 256, .fnc 64], [.xs (.int .i32) 256], g_dring_each__dring_Inv_1⟩) : p_dring_Inv_E.Ok Go.Proofs.Try.prog := AE.of_ok (all_cons ty2_ok (all_cons ty21_ok (all_cons ty22_ok (all_cons ty23_ok all_nil)))) (all_cons ⟨he_dring_Reduce, enters_dring_Reduce⟩ (all_cons ⟨he_dring_powers, enters_dring_powers⟩ (all_cons ⟨he_dring_below, enters_dring_below⟩ (all_cons ⟨he_dring_times, enters_dring_times⟩ (all_cons ⟨he_dring_each__dring_Inv_1, enters_dring_each⟩ all_nil)))))
theorem p_dring_Inv_ok (he_dring_Reduce : SigOk Go.Proofs.Try.prog 18 ⟨[.xs (.int .i32) 256], [.xs (.int .i32) 256], g_dring_Reduce⟩) (he_dring_powers : SigOk Go.Proofs.Try.prog 60 ⟨[], [.xs (.int .i32) 256], g_dring_powers⟩) (he_dring_below : SigOk Go.Proofs.Try.prog 59 ⟨[.int .i64], [.int .i32], g_dring_below⟩) (he_dring_times : SigOk Go.Proofs.Try.prog 61 ⟨[.int .i32, .int .i32], [.int .i32], g_dring_times⟩) (he_dring_each__dring_Inv_1 : SigOk Go.Proofs.Try.prog 57 ⟨[.xs (.int .i32) 256, .fnc 64], [.xs (.int .i32) 256], g_dring_each__dring_Inv_1⟩) {g : Ds [.xs (.int .i32) 256] → Option (Rs [.xs (.int .i32) 256])} (hg : ∀ x r, g x = some r → ∃ N, p_dring_Inv N x = some r) : SigOk Go.Proofs.Try.prog 34 ⟨[.xs (.int .i32) 256], [.xs (.int .i32) 256], g⟩ :=
  fun_of (E := p_dring_Inv_E) (H := p_dring_Inv_H) (L := fun N => p_dring_Inv_l5_L N) (c := p_dring_Inv_c) (ks := p_dring_Inv_ks) (rs := p_dring_Inv_rs) (F := p_dring_Inv) (p_dring_Inv_Eok he_dring_Reduce he_dring_powers he_dring_below he_dring_times he_dring_each__dring_Inv_1) mix Go.Proofs.Try.func34 (by kernel_rfl) (fun N => p_dring_Inv_l5_ok N) p_dring_Inv_eq hg

/-! livery/dring.MulNtt -/
noncomputable def p_dring_MulNtt_E : AE := AE.of [(21, ty21), (23, ty23)] [(61, ⟨[.int .i32, .int .i32], [.int .i32], g_dring_times⟩)]
noncomputable def p_dring_MulNtt_H : Hints := [(2, [2, 3, 4, 6]), (2000000, [2, 4]), (2000001, [2, 3, 4, 6]), (3000000, [4])]
noncomputable def p_dring_MulNtt_c : Code := (Go.Proofs.Try.f36).body.getD .skip
noncomputable def p_dring_MulNtt_l2_S : Shape where
  h := { tmps := [.any, .any, .sc (.ptr 0 0 false), .sc (.ptr 1 0 false), .sc (.ptr 2 0 false), .any, .sc (.int .i64), .any, .any, .any, .any, .any, .any, .any, .any, .any, .any, .any, .any, .any], mem := [.live [.xs (.int .i32) (some 256)] (.own), .live [.xs (.int .i32) (some 256)] (.own), .live [.xs (.int .i32) (some 256)] (.own)] }
  ks := [.int, .xs, .xs, .xs]
  st := fun x => { tmps := [.one .any, .one .any, .one (.sc (.ptr 0 0 none)), .one (.sc (.ptr 1 0 none)), .one (.sc (.ptr 2 0 none)), .one .any, .one (.sc (.int .i64 x.1)), .one .any, .one .any, .one .any, .one .any, .one .any, .one .any, .one .any, .one .any, .one .any, .one .any, .one .any, .one .any, .one .any], mem := [.live { segs := [.xs (.int .i32) 256 x.2.1], own := .own }, .live { segs := [.xs (.int .i32) 256 x.2.2.1], own := .own }, .live { segs := [.xs (.int .i32) 256 x.2.2.2.1], own := .own }] }
noncomputable def p_dring_MulNtt_l2_F (N : Nat) (β : Type) (x : (Int × List Int × List Int × List Int × Unit)) (kn : (Int × List Int × List Int × List Int × Unit) → Option β) (ke : ((List Int × List Int × Unit)) → Option β) : Option β :=
  if (x.1 < (256:Int)) then
    if 0 ≤ x.1 then (
    if x.1 < 256 then (
    if (x.1.toNat) < 256 then (
    if 0 ≤ x.1 then (
    if x.1 < 256 then (
    if (x.1.toNat) < 256 then (
    (g_dring_times ((List.getD x.2.1 (x.1.toNat) 0), (List.getD x.2.2.1 (x.1.toNat) 0), ())).bind fun r1 => (
    if 0 ≤ x.1 then (
    if x.1 < 256 then (
    if (x.1.toNat) < 256 then (
    kn ((IntKind.i64.wrap (x.1 + (1:Int))), (List.set x.2.1 (x.1.toNat) r1), x.2.2.1, x.2.2.2.1, ())) else none) else none) else none)) else none) else none) else none) else none) else none) else none
  else
    ke (x.2.1, x.2.2.2.1, ())
noncomputable def p_dring_MulNtt_l2_go : Go' ((List Int × List Int × Unit)) := fun y K => K (.exit 0) { tmps := [.one .any, .one .any, .one (.sc (.ptr 0 0 none)), .one .any, .one (.sc (.ptr 1 0 none)), .one .any, .one .any, .one .any, .one .any, .one .any, .one .any, .one .any, .one .any, .one .any, .one .any, .one .any, .one .any, .one .any, .one .any, .one .any], mem := [.live { segs := [.xs (.int .i32) 256 y.1], own := .own }, .live { segs := [.xs (.int .i32) 256 y.2.1], own := .own }] }
noncomputable def p_dring_MulNtt_l2_L (N : Nat) : LT := upd (LT.nil) 2 (loopE p_dring_MulNtt_l2_S N (p_dring_MulNtt_l2_F N) p_dring_MulNtt_l2_go)
theorem p_dring_MulNtt_l2_ok (N : Nat) : OkAll p_dring_MulNtt_E p_dring_MulNtt_H N (p_dring_MulNtt_l2_L N) (subs p_dring_MulNtt_c) :=
  addLoop (c := theLoop 2 p_dring_MulNtt_c) (OkAll.nil) (by kernel_rfl) (fun x => by kernel_rfl) (fun β x kn ke => by kernel_rfl)
abbrev p_dring_MulNtt_ks : List Kd := [.xs (.int .i32) 256, .xs (.int .i32) 256]
abbrev p_dring_MulNtt_rs : List Kd := [.xs (.int .i32) 256]
noncomputable def p_dring_MulNtt (N : Nat) (x : List Int × List Int × Unit) : Option (List Int) :=
  iter (p_dring_MulNtt_l2_F N) N ((0:Int), x.1, x.2.1, (List.replicate 256 0), ()) fun y2 => (
  some y2.1)
theorem p_dring_MulNtt_eq (N : Nat) (x : Ds [.xs (.int .i32) 256, .xs (.int .i32) 256]) : funL p_dring_MulNtt_E p_dring_MulNtt_H (p_dring_MulNtt_l2_L N) N Go.Proofs.Try.f36 p_dring_MulNtt_c [.xs (.int .i32) 256, .xs (.int .i32) 256] [.xs (.int .i32) 256] x = p_dring_MulNtt N x := by kernel_rfl
theorem p_dring_MulNtt_Eok (he_dring_times : SigOk Go.Proofs.Try.prog 61 ⟨[.int .i32, .int .i32], [.int .i32], g_dring_times⟩) : p_dring_MulNtt_E.Ok Go.Proofs.Try.prog := AE.of_ok (all_cons ty21_ok (all_cons ty23_ok all_nil)) (all_cons ⟨he_dring_times, enters_dring_times⟩ all_nil)
theorem p_dring_MulNtt_ok (he_dring_times : SigOk Go.Proofs.Try.prog 61 ⟨[.int .i32, .int .i32], [.int .i32], g_dring_times⟩) {g : Ds [.xs (.int .i32) 256, .xs (.int .i32) 256] → Option (Rs [.xs (.int .i32) 256])} (hg : ∀ x r, g x = some r → ∃ N, p_dring_MulNtt N x = some r) : SigOk Go.Proofs.Try.prog 36 ⟨[.xs (.int .i32) 256, .xs (.int .i32) 256], [.xs (.int .i32) 256], g⟩ :=
  fun_of (E := p_dring_MulNtt_E) (H := p_dring_MulNtt_H) (L := fun N => p_dring_MulNtt_l2_L N) (c := p_dring_MulNtt_c) (ks := p_dring_MulNtt_ks) (rs := p_dring_MulNtt_rs) (F := p_dring_MulNtt) (p_dring_MulNtt_Eok he_dring_times) mix Go.Proofs.Try.func36 (by kernel_rfl) (fun N => p_dring_MulNtt_l2_ok N) p_dring_MulNtt_eq hg

/-! livery/liveryref15.MulNtt -/
noncomputable def p_ref15_MulNtt_E : AE := AE.of [(2, ty2), (21, ty21), (23, ty23)] [(40, ⟨[.xs (.int .i32) 256], [.xs (.int .i32) 256], g_ref15_Reduce⟩)]
noncomputable def p_ref15_MulNtt_H : Hints := [(3, [2, 3, 4, 10]), (2000000, [2, 4]), (2000001, [2, 3, 4, 10]), (3000000, [4])]
noncomputable def p_ref15_MulNtt_c : Code := (Go.Proofs.Try.f37).body.getD .skip
noncomputable def p_ref15_MulNtt_l3_S : Shape where
  h := { tmps := [.any, .any, .sc (.ptr 0 0 false), .sc (.ptr 1 0 false), .sc (.ptr 2 0 false), .any, .any, .any, .any, .any, .sc (.int .i64), .any, .any, .any, .any, .any, .any, .any, .any, .any, .any, .any, .any, .any, .any, .any, .any, .any], mem := [.live [.xs (.int .i32) (some 256)] (.own), .live [.xs (.int .i32) (some 256)] (.own), .live [.xs (.int .i32) (some 256)] (.own)] }
  ks := [.int, .xs, .xs, .xs]
  st := fun x => { tmps := [.one .any, .one .any, .one (.sc (.ptr 0 0 none)), .one (.sc (.ptr 1 0 none)), .one (.sc (.ptr 2 0 none)), .one .any, .one .any, .one .any, .one .any, .one .any, .one (.sc (.int .i64 x.1)), .one .any, .one .any, .one .any, .one .any, .one .any, .one .any, .one .any, .one .any, .one .any, .one .any, .one .any, .one .any, .one .any, .one .any, .one .any, .one .any, .one .any], mem := [.live { segs := [.xs (.int .i32) 256 x.2.1], own := .own }, .live { segs := [.xs (.int .i32) 256 x.2.2.1], own := .own }, .live { segs := [.xs (.int .i32) 256 x.2.2.2.1], own := .own }] }
noncomputable def p_ref15_MulNtt_l3_F (N : Nat) (β : Type) (x : (Int × List Int × List Int × List Int × Unit)) (kn : (Int × List Int × List Int × List Int × Unit) → Option β) (ke : ((List Int × List Int × Unit)) → Option β) : Option β :=
  if (x.1 < (256:Int)) then
    if 0 ≤ x.1 then (
    if x.1 < 256 then (
    if (x.1.toNat) < 256 then (
    if 0 ≤ x.1 then (
    if x.1 < 256 then (
    if (x.1.toNat) < 256 then (
    if 0 ≤ x.1 then (
    if x.1 < 256 then (
    if (x.1.toNat) < 256 then (
    kn ((IntKind.i64.wrap (x.1 + (1:Int))), (List.set x.2.1 (x.1.toNat) (IntKind.i32.wrap (Int.tmod (IntKind.i64.wrap ((IntKind.i64.wrap (List.getD x.2.1 (x.1.toNat) 0)) * (IntKind.i64.wrap (List.getD x.2.2.1 (x.1.toNat) 0)))) (8380417:Int)))), x.2.2.1, x.2.2.2.1, ())) else none) else none) else none) else none) else none) else none) else none) else none) else none
  else
    ke (x.2.1, x.2.2.2.1, ())
noncomputable def p_ref15_MulNtt_l3_go : Go' ((List Int × List Int × Unit)) := fun y K => K (.exit 0) { tmps := [.one .any, .one .any, .one (.sc (.ptr 0 0 none)), .one .any, .one (.sc (.ptr 1 0 none)), .one .any, .one .any, .one .any, .one .any, .one .any, .one .any, .one .any, .one .any, .one .any, .one .any, .one .any, .one .any, .one .any, .one .any, .one .any, .one .any, .one .any, .one .any, .one .any, .one .any, .one .any, .one .any, .one .any], mem := [.live { segs := [.xs (.int .i32) 256 y.1], own := .own }, .live { segs := [.xs (.int .i32) 256 y.2.1], own := .own }] }
noncomputable def p_ref15_MulNtt_l3_L (N : Nat) : LT := upd (LT.nil) 3 (loopE p_ref15_MulNtt_l3_S N (p_ref15_MulNtt_l3_F N) p_ref15_MulNtt_l3_go)
theorem p_ref15_MulNtt_l3_ok (N : Nat) : OkAll p_ref15_MulNtt_E p_ref15_MulNtt_H N (p_ref15_MulNtt_l3_L N) (subs p_ref15_MulNtt_c) :=
  addLoop (c := theLoop 3 p_ref15_MulNtt_c) (OkAll.nil) (by kernel_rfl) (fun x => by kernel_rfl) (fun β x kn ke => by kernel_rfl)
abbrev p_ref15_MulNtt_ks : List Kd := [.xs (.int .i32) 256, .xs (.int .i32) 256]
abbrev p_ref15_MulNtt_rs : List Kd := [.xs (.int .i32) 256]
noncomputable def p_ref15_MulNtt (N : Nat) (x : List Int × List Int × Unit) : Option (List Int) :=
  (g_ref15_Reduce (x.1, ())).bind fun r1 => (
  (g_ref15_Reduce (x.2.1, ())).bind fun r2 => (
  iter (p_ref15_MulNtt_l3_F N) N ((0:Int), r1, r2, (List.replicate 256 0), ()) fun y3 => (
  some y3.1)))
theorem p_ref15_MulNtt_eq (N : Nat) (x : Ds [.xs (.int .i32) 256, .xs (.int .i32) 256]) : funL p_ref15_MulNtt_E p_ref15_MulNtt_H (p_ref15_MulNtt_l3_L N) N Go.Proofs.Try.f37 p_ref15_MulNtt_c [.xs (.int .i32) 256, .xs (.int .i32) 256] [.xs (.int .i32) 256] x = p_ref15_MulNtt N x := by kernel_rfl
theorem p_ref15_MulNtt_Eok (he_ref15_Reduce : SigOk Go.Proofs.Try.prog 40 ⟨[.xs (.int .i32) 256], [.xs (.int .i32) 256], g_ref15_Reduce⟩) : p_ref15_MulNtt_E.Ok Go.Proofs.Try.prog := AE.of_ok (all_cons ty2_ok (all_cons ty21_ok (all_cons ty23_ok all_nil))) (all_cons ⟨he_ref15_Reduce, enters_ref15_Reduce⟩ all_nil)
theorem p_ref15_MulNtt_ok (he_ref15_Reduce : SigOk Go.Proofs.Try.prog 40 ⟨[.xs (.int .i32) 256], [.xs (.int .i32) 256], g_ref15_Reduce⟩) {g : Ds [.xs (.int .i32) 256, .xs (.int .i32) 256] → Option (Rs [.xs (.int .i32) 256])} (hg : ∀ x r, g x = some r → ∃ N, p_ref15_MulNtt N x = some r) : SigOk Go.Proofs.Try.prog 37 ⟨[.xs (.int .i32) 256, .xs (.int .i32) 256], [.xs (.int .i32) 256], g⟩ :=
  fun_of (E := p_ref15_MulNtt_E) (H := p_ref15_MulNtt_H) (L := fun N => p_ref15_MulNtt_l3_L N) (c := p_ref15_MulNtt_c) (ks := p_ref15_MulNtt_ks) (rs := p_ref15_MulNtt_rs) (F := p_ref15_MulNtt) (p_ref15_MulNtt_Eok he_ref15_Reduce) mix Go.Proofs.Try.func37 (by kernel_rfl) (fun N => p_ref15_MulNtt_l3_ok N) p_ref15_MulNtt_eq hg

/-! livery/liveryref15.power -/
noncomputable def p_ref15_power_E : AE := AE.of [] []
noncomputable def p_ref15_power_H : Hints := [(2, [0, 1, 5]), (2000000, [5]), (2000001, [0, 1, 5]), (3000000, [4])]
noncomputable def p_ref15_power_c : Code := (Go.Proofs.Try.f62).body.getD .skip
noncomputable def p_ref15_power_l2_S : Shape where
  h := { tmps := [.sc (.int .i64), .sc (.int .i64), .any, .any, .any, .sc (.int .i64), .any, .any, .any, .any, .any, .any, .any, .any, .any, .any, .any, .any, .any, .any, .any, .any], mem := [] }
  ks := [.int, .int, .int]
  st := fun x => { tmps := [.one (.sc (.int .i64 x.1)), .one (.sc (.int .i64 x.2.1)), .one .any, .one .any, .one .any, .one (.sc (.int .i64 x.2.2.1)), .one .any, .one .any, .one .any, .one .any, .one .any, .one .any, .one .any, .one .any, .one .any, .one .any, .one .any, .one .any, .one .any, .one .any, .one .any, .one .any], mem := [] }
noncomputable def p_ref15_power_l2_F (N : Nat) (β : Type) (x : (Int × Int × Int × Unit)) (kn : (Int × Int × Int × Unit) → Option β) (ke : ((Int × Unit)) → Option β) : Option β :=
  if (x.2.1 > (0:Int)) then
    if ((Int.tmod x.2.1 (2:Int)) = (1:Int)) then
      kn ((Int.tmod (IntKind.i64.wrap (x.1 * x.1)) (8380417:Int)), (IntKind.i64.wrap (Int.tdiv x.2.1 (2:Int))), (Int.tmod (IntKind.i64.wrap (x.2.2.1 * x.1)) (8380417:Int)), ())
    else
      kn ((Int.tmod (IntKind.i64.wrap (x.1 * x.1)) (8380417:Int)), (IntKind.i64.wrap (Int.tdiv x.2.1 (2:Int))), x.2.2.1, ())
  else
    ke (x.2.2.1, ())
noncomputable def p_ref15_power_l2_go : Go' ((Int × Unit)) := fun y K => K (.exit 0) { tmps := [.one .any, .one .any, .one .any, .one .any, .one .any, .one (.sc (.int .i64 y.1)), .one .any, .one .any, .one .any, .one .any, .one .any, .one .any, .one .any, .one .any, .one .any, .one .any, .one .any, .one .any, .one .any, .one .any, .one .any, .one .any], mem := [] }
noncomputable def p_ref15_power_l2_L (N : Nat) : LT := upd (LT.nil) 2 (loopE p_ref15_power_l2_S N (p_ref15_power_l2_F N) p_ref15_power_l2_go)
theorem p_ref15_power_l2_ok (N : Nat) : OkAll p_ref15_power_E p_ref15_power_H N (p_ref15_power_l2_L N) (subs p_ref15_power_c) :=
  addLoop (c := theLoop 2 p_ref15_power_c) (OkAll.nil) (by kernel_rfl) (fun x => by kernel_rfl) (fun β x kn ke => by kernel_rfl)
abbrev p_ref15_power_ks : List Kd := [.int .i64, .int .i64]
abbrev p_ref15_power_rs : List Kd := [.int .i64]
noncomputable def p_ref15_power (N : Nat) (x : Int × Int × Unit) : Option (Int) :=
  iter (p_ref15_power_l2_F N) N (x.1, x.2.1, (1:Int), ()) fun y1 => (
  some y1.1)
theorem p_ref15_power_eq (N : Nat) (x : Ds [.int .i64, .int .i64]) : funL p_ref15_power_E p_ref15_power_H (p_ref15_power_l2_L N) N Go.Proofs.Try.f62 p_ref15_power_c [.int .i64, .int .i64] [.int .i64] x = p_ref15_power N x := by kernel_rfl
theorem p_ref15_power_Eok : p_ref15_power_E.Ok Go.Proofs.Try.prog := AE.of_ok all_nil all_nil
theorem p_ref15_power_ok {g : Ds [.int .i64, .int .i64] → Option (Rs [.int .i64])} (hg : ∀ x r, g x = some r → ∃ N, p_ref15_power N x = some r) : SigOk Go.Proofs.Try.prog 62 ⟨[.int .i64, .int .i64], [.int .i64], g⟩ :=
  fun_of (E := p_ref15_power_E) (H := p_ref15_power_H) (L := fun N => p_ref15_power_l2_L N) (c := p_ref15_power_c) (ks := p_ref15_power_ks) (rs := p_ref15_power_rs) (F := p_ref15_power) (p_ref15_power_Eok) mix Go.Proofs.Try.func62 (by kernel_rfl) (fun N => p_ref15_power_l2_ok N) p_ref15_power_eq hg

/-! livery/liveryref15.Direct -/
noncomputable def p_ref15_Direct_E : AE := AE.of [(2, ty2), (21, ty21), (23, ty23)] [(40, ⟨[.xs (.int .i32) 256], [.xs (.int .i32) 256], g_ref15_Reduce⟩), (62, ⟨[.int .i64, .int .i64], [.int .i64], g_ref15_power⟩)]
noncomputable def p_ref15_Direct_H : Hints := [(4, [1, 2, 3, 12]), (8, [1, 2, 3, 4, 5, 6, 12, 16]), (14, [1, 2, 3, 4, 7, 8, 9, 12]), (2000000, [2, 3]), (2000001, [1, 2, 3, 12]), (2000002, [1, 2, 3, 4, 5, 12]), (2000003, [1, 2, 3, 4, 5, 6, 12, 16]), (2000004, [1, 2, 3, 4, 8, 12]), (2000005, [1, 2, 3, 4, 7, 8, 9, 12]), (3000000, [2])]
noncomputable def p_ref15_Direct_c : Code := (Go.Proofs.Try.f32).body.getD .skip
noncomputable def p_ref15_Direct_l8_S : Shape where
  h := { tmps := [.any, .sc (.ptr 0 0 false), .sc (.ptr 1 0 false), .sc (.ptr 2 0 false), .sc (.int .i64), .sc (.int .i64), .sc (.int .i64), .any, .any, .any, .any, .any, .sc (.int .i64), .any, .any, .any, .sc (.int .i64), .any, .any, .any, .any, .any, .any, .any, .any, .any, .any, .any, .any, .any, .any, .any, .any, .any, .any, .any, .any, .any, .any, .any, .any, .any, .any, .any, .any, .any, .any, .any, .any], mem := [.live [.xs (.int .i32) (some 256)] (.own), .live [.xs (.int .i32) (some 256)] (.own), .live [.xs (.int .i32) (some 256)] (.own)] }
  ks := [.int, .int, .int, .int, .int, .xs, .xs, .xs]
  st := fun x => { tmps := [.one .any, .one (.sc (.ptr 0 0 none)), .one (.sc (.ptr 1 0 none)), .one (.sc (.ptr 2 0 none)), .one (.sc (.int .i64 x.1)), .one (.sc (.int .i64 x.2.1)), .one (.sc (.int .i64 x.2.2.1)), .one .any, .one .any, .one .any, .one .any, .one .any, .one (.sc (.int .i64 x.2.2.2.1)), .one .any, .one .any, .one .any, .one (.sc (.int .i64 x.2.2.2.2.1)), .one .any, .one .any, .one .any, .one .any, .one .any, .one .any, .one .any, .one .any, .one .any, .one .any, .one .any, .one .any, .one .any, .one .any, .one .any, .one .any, .one .any, .one .any, .one .any, .one .any, .one .any, .one .any, .one .any, .one .any, .one .any, .one .any, .one .any, .one .any, .one .any, .one .any, .one .any, .one .any], mem := [.live { segs := [.xs (.int .i32) 256 x.2.2.2.2.2.1], own := .own }, .live { segs := [.xs (.int .i32) 256 x.2.2.2.2.2.2.1], own := .own }, .live { segs := [.xs (.int .i32) 256 x.2.2.2.2.2.2.2.1], own := .own }] }
noncomputable def p_ref15_Direct_l8_F (N : Nat) (β : Type) (x : (Int × Int × Int × Int × Int × List Int × List Int × List Int × Unit)) (kn : (Int × Int × Int × Int × Int × List Int × List Int × List Int × Unit) → Option β) (ke : ((Int × Int × Int × List Int × List Int × List Int × Unit)) → Option β) : Option β :=
  if (x.2.2.2.2.1 < (8:Int)) then
    kn (x.1, (IntKind.i64.wrap ((IntKind.i64.wrap ((2:Int) * x.2.1)) + (Int.tmod x.2.2.1 (2:Int)))), (IntKind.i64.wrap (Int.tdiv x.2.2.1 (2:Int))), x.2.2.2.1, (IntKind.i64.wrap (x.2.2.2.2.1 + (1:Int))), x.2.2.2.2.2.1, x.2.2.2.2.2.2.1, x.2.2.2.2.2.2.2.1, ())
  else
    ke (x.1, x.2.1, x.2.2.2.1, x.2.2.2.2.2.1, x.2.2.2.2.2.2.1, x.2.2.2.2.2.2.2.1, ())
noncomputable def p_ref15_Direct_l8_go : Go' ((Int × Int × Int × List Int × List Int × List Int × Unit)) := fun y K => K (.exit 2) { tmps := [.one .any, .one (.sc (.ptr 0 0 none)), .one (.sc (.ptr 1 0 none)), .one (.sc (.ptr 2 0 none)), .one (.sc (.int .i64 y.1)), .one (.sc (.int .i64 y.2.1)), .one .any, .one .any, .one .any, .one .any, .one .any, .one .any, .one (.sc (.int .i64 y.2.2.1)), .one .any, .one .any, .one .any, .one .any, .one .any, .one .any, .one .any, .one .any, .one .any, .one .any, .one .any, .one .any, .one .any, .one .any, .one .any, .one .any, .one .any, .one .any, .one .any, .one .any, .one .any, .one .any, .one .any, .one .any, .one .any, .one .any, .one .any, .one .any, .one .any, .one .any, .one .any, .one .any, .one .any, .one .any, .one .any, .one .any], mem := [.live { segs := [.xs (.int .i32) 256 y.2.2.2.1], own := .own }, .live { segs := [.xs (.int .i32) 256 y.2.2.2.2.1], own := .own }, .live { segs := [.xs (.int .i32) 256 y.2.2.2.2.2.1], own := .own }] }
noncomputable def p_ref15_Direct_l8_L (N : Nat) : LT := upd (LT.nil) 8 (loopE p_ref15_Direct_l8_S N (p_ref15_Direct_l8_F N) p_ref15_Direct_l8_go)
theorem p_ref15_Direct_l8_ok (N : Nat) : OkAll p_ref15_Direct_E p_ref15_Direct_H N (p_ref15_Direct_l8_L N) (subs p_ref15_Direct_c) :=
  addLoop (c := theLoop 8 p_ref15_Direct_c) (OkAll.nil) (by kernel_rfl) (fun x => by kernel_rfl) (fun β x kn ke => by kernel_rfl)
noncomputable def p_ref15_Direct_l14_S : Shape where
  h := { tmps := [.any, .sc (.ptr 0 0 false), .sc (.ptr 1 0 false), .sc (.ptr 2 0 false), .sc (.int .i64), .any, .any, .sc (.int .i64), .sc (.int .i64), .sc (.int .i64), .any, .any, .sc (.int .i64), .any, .any, .any, .any, .any, .any, .any, .any, .any, .any, .any, .any, .any, .any, .any, .any, .any, .any, .any, .any, .any, .any, .any, .any, .any, .any, .any, .any, .any, .any, .any, .any, .any, .any, .any, .any], mem := [.live [.xs (.int .i32) (some 256)] (.own), .live [.xs (.int .i32) (some 256)] (.own), .live [.xs (.int .i32) (some 256)] (.own)] }
  ks := [.int, .int, .int, .int, .int, .xs, .xs, .xs]
  st := fun x => { tmps := [.one .any, .one (.sc (.ptr 0 0 none)), .one (.sc (.ptr 1 0 none)), .one (.sc (.ptr 2 0 none)), .one (.sc (.int .i64 x.1)), .one .any, .one .any, .one (.sc (.int .i64 x.2.1)), .one (.sc (.int .i64 x.2.2.1)), .one (.sc (.int .i64 x.2.2.2.1)), .one .any, .one .any, .one (.sc (.int .i64 x.2.2.2.2.1)), .one .any, .one .any, .one .any, .one .any, .one .any, .one .any, .one .any, .one .any, .one .any, .one .any, .one .any, .one .any, .one .any, .one .any, .one .any, .one .any, .one .any, .one .any, .one .any, .one .any, .one .any, .one .any, .one .any, .one .any, .one .any, .one .any, .one .any, .one .any, .one .any, .one .any, .one .any, .one .any, .one .any, .one .any, .one .any, .one .any], mem := [.live { segs := [.xs (.int .i32) 256 x.2.2.2.2.2.1], own := .own }, .live { segs := [.xs (.int .i32) 256 x.2.2.2.2.2.2.1], own := .own }, .live { segs := [.xs (.int .i32) 256 x.2.2.2.2.2.2.2.1], own := .own }] }
noncomputable def p_ref15_Direct_l14_F (N : Nat) (β : Type) (x : (Int × Int × Int × Int × Int × List Int × List Int × List Int × Unit)) (kn : (Int × Int × Int × Int × Int × List Int × List Int × List Int × Unit) → Option β) (ke : ((Int × Int × Int × List Int × List Int × List Int × Unit)) → Option β) : Option β :=
  if (x.2.2.2.1 ≥ (0:Int)) then
    if 0 ≤ x.2.2.2.1 then (
    if x.2.2.2.1 < 256 then (
    if (x.2.2.2.1.toNat) < 256 then (
    kn (x.1, x.2.1, (Int.tmod (IntKind.i64.wrap ((IntKind.i64.wrap (x.2.2.1 * x.2.1)) + (IntKind.i64.wrap (List.getD x.2.2.2.2.2.1 (x.2.2.2.1.toNat) 0)))) (8380417:Int)), (IntKind.i64.wrap (x.2.2.2.1 - (1:Int))), x.2.2.2.2.1, x.2.2.2.2.2.1, x.2.2.2.2.2.2.1, x.2.2.2.2.2.2.2.1, ())) else none) else none) else none
  else
    ke (x.1, x.2.2.1, x.2.2.2.2.1, x.2.2.2.2.2.1, x.2.2.2.2.2.2.1, x.2.2.2.2.2.2.2.1, ())
noncomputable def p_ref15_Direct_l14_go : Go' ((Int × Int × Int × List Int × List Int × List Int × Unit)) := fun y K => K (.exit 4) { tmps := [.one .any, .one (.sc (.ptr 0 0 none)), .one (.sc (.ptr 1 0 none)), .one (.sc (.ptr 2 0 none)), .one (.sc (.int .i64 y.1)), .one .any, .one .any, .one .any, .one (.sc (.int .i64 y.2.1)), .one .any, .one .any, .one .any, .one (.sc (.int .i64 y.2.2.1)), .one .any, .one .any, .one .any, .one .any, .one .any, .one .any, .one .any, .one .any, .one .any, .one .any, .one .any, .one .any, .one .any, .one .any, .one .any, .one .any, .one .any, .one .any, .one .any, .one .any, .one .any, .one .any, .one .any, .one .any, .one .any, .one .any, .one .any, .one .any, .one .any, .one .any, .one .any, .one .any, .one .any, .one .any, .one .any, .one .any], mem := [.live { segs := [.xs (.int .i32) 256 y.2.2.2.1], own := .own }, .live { segs := [.xs (.int .i32) 256 y.2.2.2.2.1], own := .own }, .live { segs := [.xs (.int .i32) 256 y.2.2.2.2.2.1], own := .own }] }
noncomputable def p_ref15_Direct_l14_L (N : Nat) : LT := upd (p_ref15_Direct_l8_L N) 14 (loopE p_ref15_Direct_l14_S N (p_ref15_Direct_l14_F N) p_ref15_Direct_l14_go)
theorem p_ref15_Direct_l14_ok (N : Nat) : OkAll p_ref15_Direct_E p_ref15_Direct_H N (p_ref15_Direct_l14_L N) (subs p_ref15_Direct_c) :=
  addLoop (c := theLoop 14 p_ref15_Direct_c) (p_ref15_Direct_l8_ok N) (by kernel_rfl) (fun x => by kernel_rfl) (fun β x kn ke => by kernel_rfl)
noncomputable def p_ref15_Direct_l4_S : Shape where
  h := { tmps := [.any, .sc (.ptr 0 0 false), .sc (.ptr 1 0 false), .sc (.ptr 2 0 false), .any, .any, .any, .any, .any, .any, .any, .any, .sc (.int .i64), .any, .any, .any, .any, .any, .any, .any, .any, .any, .any, .any, .any, .any, .any, .any, .any, .any, .any, .any, .any, .any, .any, .any, .any, .any, .any, .any, .any, .any, .any, .any, .any, .any, .any, .any, .any], mem := [.live [.xs (.int .i32) (some 256)] (.own), .live [.xs (.int .i32) (some 256)] (.own), .live [.xs (.int .i32) (some 256)] (.own)] }
  ks := [.int, .xs, .xs, .xs]
  st := fun x => { tmps := [.one .any, .one (.sc (.ptr 0 0 none)), .one (.sc (.ptr 1 0 none)), .one (.sc (.ptr 2 0 none)), .one .any, .one .any, .one .any, .one .any, .one .any, .one .any, .one .any, .one .any, .one (.sc (.int .i64 x.1)), .one .any, .one .any, .one .any, .one .any, .one .any, .one .any, .one .any, .one .any, .one .any, .one .any, .one .any, .one .any, .one .any, .one .any, .one .any, .one .any, .one .any, .one .any, .one .any, .one .any, .one .any, .one .any, .one .any, .one .any, .one .any, .one .any, .one .any, .one .any, .one .any, .one .any, .one .any, .one .any, .one .any, .one .any, .one .any, .one .any], mem := [.live { segs := [.xs (.int .i32) 256 x.2.1], own := .own }, .live { segs := [.xs (.int .i32) 256 x.2.2.1], own := .own }, .live { segs := [.xs (.int .i32) 256 x.2.2.2.1], own := .own }] }
noncomputable def p_ref15_Direct_l4_F (N : Nat) (β : Type) (x : (Int × List Int × List Int × List Int × Unit)) (kn : (Int × List Int × List Int × List Int × Unit) → Option β) (ke : ((List Int × List Int × Unit)) → Option β) : Option β :=
  if (x.1 < (256:Int)) then
    iter (p_ref15_Direct_l8_F N) N (x.1, (0:Int), x.1, x.1, (0:Int), x.2.1, x.2.2.1, x.2.2.2.1, ()) fun y2 => (
    (g_ref15_power ((1753:Int), (IntKind.i64.wrap ((IntKind.i64.wrap ((2:Int) * y2.2.1)) + (1:Int))), ())).bind fun r3 => (
    iter (p_ref15_Direct_l14_F N) N (y2.1, r3, (0:Int), (255:Int), y2.2.2.1, y2.2.2.2.1, y2.2.2.2.2.1, y2.2.2.2.2.2.1, ()) fun y4 => (
    if 0 ≤ y4.1 then (
    if y4.1 < 256 then (
    if (y4.1.toNat) < 256 then (
    kn ((IntKind.i64.wrap (y4.2.2.1 + (1:Int))), y4.2.2.2.1, y4.2.2.2.2.1, (List.set y4.2.2.2.2.2.1 (y4.1.toNat) (IntKind.i32.wrap y4.2.1)), ())) else none) else none) else none)))
  else
    ke (x.2.2.1, x.2.2.2.1, ())
noncomputable def p_ref15_Direct_l4_go : Go' ((List Int × List Int × Unit)) := fun y K => K (.exit 0) { tmps := [.one .any, .one .any, .one (.sc (.ptr 0 0 none)), .one (.sc (.ptr 1 0 none)), .one .any, .one .any, .one .any, .one .any, .one .any, .one .any, .one .any, .one .any, .one .any, .one .any, .one .any, .one .any, .one .any, .one .any, .one .any, .one .any, .one .any, .one .any, .one .any, .one .any, .one .any, .one .any, .one .any, .one .any, .one .any, .one .any, .one .any, .one .any, .one .any, .one .any, .one .any, .one .any, .one .any, .one .any, .one .any, .one .any, .one .any, .one .any, .one .any, .one .any, .one .any, .one .any, .one .any, .one .any, .one .any], mem := [.live { segs := [.xs (.int .i32) 256 y.1], own := .own }, .live { segs := [.xs (.int .i32) 256 y.2.1], own := .own }] }
noncomputable def p_ref15_Direct_l4_L (N : Nat) : LT := upd (p_ref15_Direct_l14_L N) 4 (loopE p_ref15_Direct_l4_S N (p_ref15_Direct_l4_F N) p_ref15_Direct_l4_go)
theorem p_ref15_Direct_l4_ok (N : Nat) : OkAll p_ref15_Direct_E p_ref15_Direct_H N (p_ref15_Direct_l4_L N) (subs p_ref15_Direct_c) :=
  addLoop (c := theLoop 4 p_ref15_Direct_c) (p_ref15_Direct_l14_ok N) (by kernel_rfl) (fun x => by kernel_rfl) (fun β x kn ke => by kernel_rfl)
abbrev p_ref15_Direct_ks : List Kd := [.xs (.int .i32) 256]
abbrev p_ref15_Direct_rs : List Kd := [.xs (.int .i32) 256]
noncomputable def p_ref15_Direct (N : Nat) (x : List Int × Unit) : Option (List Int) :=
  (g_ref15_Reduce (x.1, ())).bind fun r1 => (
  iter (p_ref15_Direct_l4_F N) N ((0:Int), r1, (List.replicate 256 0), (List.replicate 256 0), ()) fun y5 => (
  some y5.2.1))
theorem p_ref15_Direct_eq (N : Nat) (x : Ds [.xs (.int .i32) 256]) : funL p_ref15_Direct_E p_ref15_Direct_H (p_ref15_Direct_l4_L N) N Go.Proofs.Try.f32 p_ref15_Direct_c [.xs (.int .i32) 256] [.xs (.int .i32) 256] x = p_ref15_Direct N x := by kernel_rfl
theorem p_ref15_Direct_Eok (he_ref15_Reduce : SigOk Go.Proofs.Try.prog 40 ⟨[.xs (.int .i32) 256], [.xs (.int .i32) 256], g_ref15_Reduce⟩) (he_ref15_power : SigOk Go.Proofs.Try.prog 62 ⟨[.int .i64, .int .i64], [.int .i64], g_ref15_power⟩) : p_ref15_Direct_E.Ok Go.Proofs.Try.prog := AE.of_ok (all_cons ty2_ok (all_cons ty21_ok (all_cons ty23_ok all_nil))) (all_cons ⟨he_ref15_Reduce, enters_ref15_Reduce⟩ (all_cons ⟨he_ref15_power, enters_ref15_power⟩ all_nil))
theorem p_ref15_Direct_ok (he_ref15_Reduce : SigOk Go.Proofs.Try.prog 40 ⟨[.xs (.int .i32) 256], [.xs (.int .i32) 256], g_ref15_Reduce⟩) (he_ref15_power : SigOk Go.Proofs.Try.prog 62 ⟨[.int .i64, .int .i64], [.int .i64], g_ref15_power⟩) {g : Ds [.xs (.int .i32) 256] → Option (Rs [.xs (.int .i32) 256])} (hg : ∀ x r, g x = some r → ∃ N, p_ref15_Direct N x = some r) : SigOk Go.Proofs.Try.prog 32 ⟨[.xs (.int .i32) 256], [.xs (.int .i32) 256], g⟩ :=
  fun_of (E := p_ref15_Direct_E) (H := p_ref15_Direct_H) (L := fun N => p_ref15_Direct_l4_L N) (c := p_ref15_Direct_c) (ks := p_ref15_Direct_ks) (rs := p_ref15_Direct_rs) (F := p_ref15_Direct) (p_ref15_Direct_Eok he_ref15_Reduce he_ref15_power) mix Go.Proofs.Try.func32 (by kernel_rfl) (fun N => p_ref15_Direct_l4_ok N) p_ref15_Direct_eq hg
end Go.Ax.TryP
/-! Printed by program (gen.py). -/
set_option linter.unusedVariables false
namespace Go.Ax.TryP
section
variable [JoinG]
/-! livery/liveryref15.Inv -/
noncomputable def p_ref15_Inv_E : AE := AE.of [(2, ty2), (21, ty21), (23, ty23), (63, ty63)] [(40, ⟨[.xs (.int .i32) 256], [.xs (.int .i32) 256], g_ref15_Reduce⟩), (65, ⟨[.sl (.int .i64), .int .i64], [.sl (.int .i64)], g_ref15_join⟩)]
noncomputable def p_ref15_Inv_H : Hints := [(4, [1, 2, 3, 11]), (10, [2, 5, 23, 24, 25]), (2000000, [2, 3]), (2000001, [1, 2, 3, 11]), (2000002, [2, 5]), (2000003, [2, 5, 23, 24, 25]), (3000000, [2])]
noncomputable def p_ref15_Inv_c : Code := (Go.Proofs.Try.f35).body.getD .skip
noncomputable def p_ref15_Inv_l4_S : Shape where
  h := { tmps := [.any, .sc (.ptr 0 0 false), .sc (.ptr 1 0 false), .sc (.vec 2 (some 256) 1), .any, .any, .any, .any, .any, .any, .any, .sc (.int .i64), .any, .any, .any, .any, .any, .any, .any, .any, .any, .any, .any, .any, .any, .any, .any, .any, .any, .any, .any, .any, .any, .any, .any, .any], mem := [.live [.xs (.int .i32) (some 256)] (.own), .live [.xs (.int .i32) (some 256)] (.own), .live [.xs (.int .i64) (some 256)] (.own)] }
  ks := [.int, .xs, .xs, .xs]
  st := fun x => { tmps := [.one .any, .one (.sc (.ptr 0 0 none)), .one (.sc (.ptr 1 0 none)), .one (.sc (.vec 2 256 1)), .one .any, .one .any, .one .any, .one .any, .one .any, .one .any, .one .any, .one (.sc (.int .i64 x.1)), .one .any, .one .any, .one .any, .one .any, .one .any, .one .any, .one .any, .one .any, .one .any, .one .any, .one .any, .one .any, .one .any, .one .any, .one .any, .one .any, .one .any, .one .any, .one .any, .one .any, .one .any, .one .any, .one .any, .one .any], mem := [.live { segs := [.xs (.int .i32) 256 x.2.1], own := .own }, .live { segs := [.xs (.int .i32) 256 x.2.2.1], own := .own }, .live { segs := [.xs (.int .i64) 256 x.2.2.2.1], own := .own }] }
noncomputable def p_ref15_Inv_l4_F (N : Nat) (β : Type) (x : (Int × List Int × List Int × List Int × Unit)) (kn : (Int × List Int × List Int × List Int × Unit) → Option β) (ke : ((List Int × List Int × Unit)) → Option β) : Option β :=
  if (x.1 < (256:Int)) then
    if 0 ≤ x.1 then (
    if x.1 < 256 then (
    if (x.1.toNat) < 256 then (
    if 0 ≤ x.1 then (
    if x.1 < (256:Int) then (
    if (x.1.toNat) < 256 then (
    kn ((IntKind.i64.wrap (x.1 + (1:Int))), x.2.1, x.2.2.1, (List.set x.2.2.2.1 (x.1.toNat) (IntKind.i64.wrap (List.getD x.2.1 (x.1.toNat) 0))), ())) else none) else none) else none) else none) else none) else none
  else
    ke (x.2.2.1, x.2.2.2.1, ())
noncomputable def p_ref15_Inv_l4_go : Go' ((List Int × List Int × Unit)) := fun y K => K (.exit 0) { tmps := [.one .any, .one .any, .one (.sc (.ptr 0 0 none)), .one (.sc (.vec 1 256 1)), .one .any, .one .any, .one .any, .one .any, .one .any, .one .any, .one .any, .one .any, .one .any, .one .any, .one .any, .one .any, .one .any, .one .any, .one .any, .one .any, .one .any, .one .any, .one .any, .one .any, .one .any, .one .any, .one .any, .one .any, .one .any, .one .any, .one .any, .one .any, .one .any, .one .any, .one .any, .one .any], mem := [.live { segs := [.xs (.int .i32) 256 y.1], own := .own }, .live { segs := [.xs (.int .i64) 256 y.2.1], own := .own }] }
noncomputable def p_ref15_Inv_l4_L (N : Nat) : LT := upd (LT.nil) 4 (loopE p_ref15_Inv_l4_S N (p_ref15_Inv_l4_F N) p_ref15_Inv_l4_go)
theorem p_ref15_Inv_l4_ok (N : Nat) : OkAll p_ref15_Inv_E p_ref15_Inv_H N (p_ref15_Inv_l4_L N) (subs p_ref15_Inv_c) :=
  addLoop (c := theLoop 4 p_ref15_Inv_c) (OkAll.nil) (by kernel_rfl) (fun x => by kernel_rfl) (fun β x kn ke => by kernel_rfl)
noncomputable def p_ref15_Inv_l10_S : Shape where
  h := { tmps := [.any, .any, .sc (.ptr 0 0 false), .any, .any, .sc (.ptr 1 0 false), .any, .any, .any, .any, .any, .any, .any, .any, .any, .any, .any, .any, .any, .any, .any, .any, .any, .sc (.vec 2 none 1), .sc (.int .i64), .sc (.int .i64), .any, .any, .any, .any, .any, .any, .any, .any, .any, .any], mem := [.live [.xs (.int .i32) (some 256)] (.own), .live [.xs (.int .i32) (some 256)] (.own), .live [.xs (.int .i64) none] (.own)] }
  ks := [.nat, .int, .int, .xs, .xs, .nat, .xs]
  st := fun x => { tmps := [.one .any, .one .any, .one (.sc (.ptr 0 0 none)), .one .any, .one .any, .one (.sc (.ptr 1 0 none)), .one .any, .one .any, .one .any, .one .any, .one .any, .one .any, .one .any, .one .any, .one .any, .one .any, .one .any, .one .any, .one .any, .one .any, .one .any, .one .any, .one .any, .one (.sc (.vec 2 x.1 1)), .one (.sc (.int .i64 x.2.1)), .one (.sc (.int .i64 x.2.2.1)), .one .any, .one .any, .one .any, .one .any, .one .any, .one .any, .one .any, .one .any, .one .any, .one .any], mem := [.live { segs := [.xs (.int .i32) 256 x.2.2.2.1], own := .own }, .live { segs := [.xs (.int .i32) 256 x.2.2.2.2.1], own := .own }, .live { segs := [.xs (.int .i64) x.2.2.2.2.2.1 x.2.2.2.2.2.2.1], own := .own }] }
noncomputable def p_ref15_Inv_l10_F (N : Nat) (β : Type) (x : (Nat × Int × Int × List Int × List Int × Nat × List Int × Unit)) (kn : (Nat × Int × Int × List Int × List Int × Nat × List Int × Unit) → Option β) (ke : ((List Int × List Int × Unit)) → Option β) : Option β :=
  if (x.2.2.1 < x.2.1) then
    if 0 ≤ x.2.2.1 then (
    if x.2.2.1 < ((x.1 : Nat) : Int) then (
    if (x.2.2.1.toNat) < x.2.2.2.2.2.1 then (
    if 0 ≤ x.2.2.1 then (
    if x.2.2.1 < 256 then (
    if (x.2.2.1.toNat) < 256 then (
    kn (x.1, x.2.1, (IntKind.i64.wrap (x.2.2.1 + (1:Int))), x.2.2.2.1, (List.set x.2.2.2.2.1 (x.2.2.1.toNat) (IntKind.i32.wrap (List.getD x.2.2.2.2.2.2.1 (x.2.2.1.toNat) 0))), x.2.2.2.2.2.1, x.2.2.2.2.2.2.1, ())) else none) else none) else none) else none) else none) else none
  else
    ke (x.2.2.2.1, x.2.2.2.2.1, ())
noncomputable def p_ref15_Inv_l10_go : Go' ((List Int × List Int × Unit)) := fun y K => K (.exit 2) { tmps := [.one .any, .one .any, .one (.sc (.ptr 0 0 none)), .one .any, .one .any, .one (.sc (.ptr 1 0 none)), .one .any, .one .any, .one .any, .one .any, .one .any, .one .any, .one .any, .one .any, .one .any, .one .any, .one .any, .one .any, .one .any, .one .any, .one .any, .one .any, .one .any, .one .any, .one .any, .one .any, .one .any, .one .any, .one .any, .one .any, .one .any, .one .any, .one .any, .one .any, .one .any, .one .any], mem := [.live { segs := [.xs (.int .i32) 256 y.1], own := .own }, .live { segs := [.xs (.int .i32) 256 y.2.1], own := .own }] }
noncomputable def p_ref15_Inv_l10_L (N : Nat) : LT := upd (p_ref15_Inv_l4_L N) 10 (loopE p_ref15_Inv_l10_S N (p_ref15_Inv_l10_F N) p_ref15_Inv_l10_go)
theorem p_ref15_Inv_l10_ok (N : Nat) : OkAll p_ref15_Inv_E p_ref15_Inv_H N (p_ref15_Inv_l10_L N) (subs p_ref15_Inv_c) :=
  addLoop (c := theLoop 10 p_ref15_Inv_c) (p_ref15_Inv_l4_ok N) (by kernel_rfl) (fun x => by kernel_rfl) (fun β x kn ke => by kernel_rfl)
abbrev p_ref15_Inv_ks : List Kd := [.xs (.int .i32) 256]
abbrev p_ref15_Inv_rs : List Kd := [.xs (.int .i32) 256]
noncomputable def p_ref15_Inv (N : Nat) (x : List Int × Unit) : Option (List Int) :=
  (g_ref15_Reduce (x.1, ())).bind fun r1 => (
  if 0 ≤ (256:Int) then (
  if (256:Int) = (256:Int) then (
  if (256:Int) * 8 ≤ 281474976710656 then (
  iter (p_ref15_Inv_l4_F N) N ((0:Int), r1, (List.replicate 256 0), (List.replicate 256 0), ()) fun y2 => (
  (g_ref15_join (y2.2.1, (256:Int), ())).bind fun r3 => (
  iter (p_ref15_Inv_l10_F N) N ((List.length r3), (((List.length r3) : Nat) : Int), (0:Int), y2.1, (List.replicate 256 0), (List.length r3), r3, ()) fun y4 => (
  some y4.2.1)))) else none) else none) else none)
theorem p_ref15_Inv_eq (N : Nat) (x : Ds [.xs (.int .i32) 256]) : funL p_ref15_Inv_E p_ref15_Inv_H (p_ref15_Inv_l10_L N) N Go.Proofs.Try.f35 p_ref15_Inv_c [.xs (.int .i32) 256] [.xs (.int .i32) 256] x = p_ref15_Inv N x := by kernel_rfl
theorem p_ref15_Inv_Eok (he_ref15_Reduce : SigOk Go.Proofs.Try.prog 40 ⟨[.xs (.int .i32) 256], [.xs (.int .i32) 256], g_ref15_Reduce⟩) (he_ref15_join : SigOk Go.Proofs.Try.prog 65 ⟨[.sl (.int .i64), .int .i64], [.sl (.int .i64)], g_ref15_join⟩) : p_ref15_Inv_E.Ok Go.Proofs.Try.prog := AE.of_ok (all_cons ty2_ok (all_cons ty21_ok (all_cons ty23_ok (all_cons ty63_ok all_nil)))) (all_cons ⟨he_ref15_Reduce, enters_ref15_Reduce⟩ (all_cons ⟨he_ref15_join, enters_ref15_join⟩ all_nil))
theorem p_ref15_Inv_ok (he_ref15_Reduce : SigOk Go.Proofs.Try.prog 40 ⟨[.xs (.int .i32) 256], [.xs (.int .i32) 256], g_ref15_Reduce⟩) (he_ref15_join : SigOk Go.Proofs.Try.prog 65 ⟨[.sl (.int .i64), .int .i64], [.sl (.int .i64)], g_ref15_join⟩) {g : Ds [.xs (.int .i32) 256] → Option (Rs [.xs (.int .i32) 256])} (hg : ∀ x r, g x = some r → ∃ N, p_ref15_Inv N x = some r) : SigOk Go.Proofs.Try.prog 35 ⟨[.xs (.int .i32) 256], [.xs (.int .i32) 256], g⟩ :=
  fun_of (E := p_ref15_Inv_E) (H := p_ref15_Inv_H) (L := fun N => p_ref15_Inv_l10_L N) (c := p_ref15_Inv_c) (ks := p_ref15_Inv_ks) (rs := p_ref15_Inv_rs) (F := p_ref15_Inv) (p_ref15_Inv_Eok he_ref15_Reduce he_ref15_join) mix Go.Proofs.Try.func35 (by kernel_rfl) (fun N => p_ref15_Inv_l10_ok N) p_ref15_Inv_eq hg

end
/-! livery/liverylaw15.DringNtts -/
noncomputable def p_law15_DringNtts_E : AE := AE.of [(21, ty21), (23, ty23)] [(17, ⟨[], [.bool], g_law15_live⟩), (31, ⟨[.xs (.int .i32) 256], [.xs (.int .i32) 256], g_dring_Ntt⟩), (32, ⟨[.xs (.int .i32) 256], [.xs (.int .i32) 256], g_ref15_Direct⟩), (33, ⟨[.xs (.int .i32) 256], [.xs (.int .i32) 256], g_ref15_Ntt⟩), (34, ⟨[.xs (.int .i32) 256], [.xs (.int .i32) 256], g_dring_Inv⟩), (35, ⟨[.xs (.int .i32) 256], [.xs (.int .i32) 256], g_ref15_Inv⟩), (36, ⟨[.xs (.int .i32) 256, .xs (.int .i32) 256], [.xs (.int .i32) 256], g_dring_MulNtt⟩), (37, ⟨[.xs (.int .i32) 256, .xs (.int .i32) 256], [.xs (.int .i32) 256], g_ref15_MulNtt⟩)]
noncomputable def p_law15_DringNtts_H : Hints := [(3000000, [4])]
noncomputable def p_law15_DringNtts_c : Code := (Go.Proofs.Try.f8).body.getD .skip
abbrev p_law15_DringNtts_ks : List Kd := [.xs (.int .i32) 256, .xs (.int .i32) 256]
abbrev p_law15_DringNtts_rs : List Kd := [.bool]
noncomputable def p_law15_DringNtts (N : Nat) (x : List Int × List Int × Unit) : Option (Bool) :=
  (g_law15_live (())).bind fun r1 => (
  if (r1 = true) then
    (g_dring_Ntt (x.1, ())).bind fun r2 => (
    (g_ref15_Direct (x.1, ())).bind fun r3 => (
    if (r2 = r3) then
      (g_ref15_Ntt (x.1, ())).bind fun r4 => (
      (g_ref15_Direct (x.1, ())).bind fun r5 => (
      if (r4 = r5) then
        (g_dring_Inv (x.1, ())).bind fun r6 => (
        (g_ref15_Inv (x.1, ())).bind fun r7 => (
        if (r6 = r7) then
          (g_dring_MulNtt (x.1, x.2.1, ())).bind fun r8 => (
          (g_ref15_MulNtt (x.1, x.2.1, ())).bind fun r9 => (
          some (decide (r8 = r9))))
        else
          some false))
      else
        some false))
    else
      some false))
  else
    some false)
theorem p_law15_DringNtts_eq (N : Nat) (x : Ds [.xs (.int .i32) 256, .xs (.int .i32) 256]) : funL p_law15_DringNtts_E p_law15_DringNtts_H (LT.nil) N Go.Proofs.Try.f8 p_law15_DringNtts_c [.xs (.int .i32) 256, .xs (.int .i32) 256] [.bool] x = p_law15_DringNtts N x := by kernel_rfl
theorem p_law15_DringNtts_Eok (he_law15_live : SigOk Go.Proofs.Try.prog 17 ⟨[], [.bool], g_law15_live⟩) (he_dring_Ntt : SigOk Go.Proofs.Try.prog 31 ⟨[.xs (.int .i32) 256], [.xs (.int .i32) 256], g_dring_Ntt⟩) (he_ref15_Direct : SigOk Go.Proofs.Try.prog 32 ⟨[.xs (.int .i32) 256], [.xs (.int .i32) 256], g_ref15_Direct⟩) (he_ref15_Ntt : SigOk Go.Proofs.Try.prog 33 ⟨[.xs (.int .i32) 256], [.xs (.int .i32) 256], g_ref15_Ntt⟩) (he_dring_Inv : SigOk Go.Proofs.Try.prog 34 ⟨[.xs (.int .i32) 256], [.xs (.int .i32) 256], g_dring_Inv⟩) (he_ref15_Inv : SigOk Go.Proofs.Try.prog 35 ⟨[.xs (.int .i32) 256], [.xs (.int .i32) 256], g_ref15_Inv⟩) (he_dring_MulNtt : SigOk Go.Proofs.Try.prog 36 ⟨[.xs (.int .i32) 256, .xs (.int .i32) 256], [.xs (.int .i32) 256], g_dring_MulNtt⟩) (he_ref15_MulNtt : SigOk Go.Proofs.Try.prog 37 ⟨[.xs (.int .i32) 256, .xs (.int .i32) 256], [.xs (.int .i32) 256], g_ref15_MulNtt⟩) : p_law15_DringNtts_E.Ok Go.Proofs.Try.prog := AE.of_ok (all_cons ty21_ok (all_cons ty23_ok all_nil)) (all_cons ⟨he_law15_live, enters_law15_live⟩ (all_cons ⟨he_dring_Ntt, enters_dring_Ntt⟩ (all_cons ⟨he_ref15_Direct, enters_ref15_Direct⟩ (all_cons ⟨he_ref15_Ntt, enters_ref15_Ntt⟩ (all_cons ⟨he_dring_Inv, enters_dring_Inv⟩ (all_cons ⟨he_ref15_Inv, enters_ref15_Inv⟩ (all_cons ⟨he_dring_MulNtt, enters_dring_MulNtt⟩ (all_cons ⟨he_ref15_MulNtt, enters_ref15_MulNtt⟩ all_nil))))))))
theorem p_law15_DringNtts_ok (he_law15_live : SigOk Go.Proofs.Try.prog 17 ⟨[], [.bool], g_law15_live⟩) (he_dring_Ntt : SigOk Go.Proofs.Try.prog 31 ⟨[.xs (.int .i32) 256], [.xs (.int .i32) 256], g_dring_Ntt⟩) (he_ref15_Direct : SigOk Go.Proofs.Try.prog 32 ⟨[.xs (.int .i32) 256], [.xs (.int .i32) 256], g_ref15_Direct⟩) (he_ref15_Ntt : SigOk Go.Proofs.Try.prog 33 ⟨[.xs (.int .i32) 256], [.xs (.int .i32) 256], g_ref15_Ntt⟩) (he_dring_Inv : SigOk Go.Proofs.Try.prog 34 ⟨[.xs (.int .i32) 256], [.xs (.int .i32) 256], g_dring_Inv⟩) (he_ref15_Inv : SigOk Go.Proofs.Try.prog 35 ⟨[.xs (.int .i32) 256], [.xs (.int .i32) 256], g_ref15_Inv⟩) (he_dring_MulNtt : SigOk Go.Proofs.Try.prog 36 ⟨[.xs (.int .i32) 256, .xs (.int .i32) 256], [.xs (.int .i32) 256], g_dring_MulNtt⟩) (he_ref15_MulNtt : SigOk Go.Proofs.Try.prog 37 ⟨[.xs (.int .i32) 256, .xs (.int .i32) 256], [.xs (.int .i32) 256], g_ref15_MulNtt⟩) {g : Ds [.xs (.int .i32) 256, .xs (.int .i32) 256] → Option (Rs [.bool])} (hg : ∀ x r, g x = some r → ∃ N, p_law15_DringNtts N x = some r) : SigOk Go.Proofs.Try.prog 8 ⟨[.xs (.int .i32) 256, .xs (.int .i32) 256], [.bool], g⟩ :=
  fun_of (E := p_law15_DringNtts_E) (H := p_law15_DringNtts_H) (L := fun N => LT.nil) (c := p_law15_DringNtts_c) (ks := p_law15_DringNtts_ks) (rs := p_law15_DringNtts_rs) (F := p_law15_DringNtts) (p_law15_DringNtts_Eok he_law15_live he_dring_Ntt he_ref15_Direct he_ref15_Ntt he_dring_Inv he_ref15_Inv he_dring_MulNtt he_ref15_MulNtt) mix Go.Proofs.Try.func8 (by kernel_rfl) (fun N => OkAll.nil) p_law15_DringNtts_eq hg
end Go.Ax.TryP
/-! ### The printed functions compute what is specified (modulo 8380417) -/
namespace Go.Ax.TryP
theorem wf_d1 {a : List Int} : wfAll [.xs (.int .i32) 256] (a, ()) ↔ i32s 256 a := by simp [wfAll, wf_i32s]
theorem i32_at {a : List Int} (h : i32s 256 a) (i : Nat) : -2147483648 ≤ a.getD i 0 ∧ a.getD i 0 ≤ 2147483647 := rows.at h (by omega) i
theorem fDRed_ok (a : List Int) : rows 0 8380416 256 (fDRed a) := rows.range fun i _ => by omega
theorem fDRed_at (a : List Int) (i : Nat) : 0 ≤ (fDRed a).getD i 0 ∧ (fDRed a).getD i 0 ≤ 8380416 := rows.at (fDRed_ok a) (by omega) i
theorem fDRed_i32 (a : List Int) : i32s 256 (fDRed a) := (fDRed_ok a).mono (by omega) (by omega)
theorem fDRed_getD {a : List Int} {i : Nat} (hi : i < 256) : (fDRed a).getD i 0 = a.getD i 0 % 8380417 := dpoly_getD hi

theorem q_dring_below : ∀ x r, g_dring_below x = some r → ∃ N, p_dring_below N x = some r := by
  refine Spec_of (ks := p_dring_below_ks) (rs := p_dring_below_rs) fun x hw _ => ⟨0, ?_⟩
  obtain ⟨(z : Int), u⟩ := x
  have h := tmod_fix (a := z) (b := 8380417) (by omega)
  have h1 := Int.emod_nonneg z (show (8380417 : Int) ≠ 0 by omega)
  have h2 := Int.emod_lt_of_pos z (show (0 : Int) < 8380417 by omega)
  unfold p_dring_below
  simp only at h ⊢
  split
  · rename_i hlt
    rw [if_pos hlt] at h
    rw [h, wrap_i64 (by omega) (by omega), wrap_i32 (by omega) (by omega)]
  · rename_i hlt
    rw [if_neg hlt] at h
    rw [h, wrap_i32 (by omega) (by omega)]
theorem q_ref15_mod : ∀ x r, g_ref15_mod x = some r → ∃ N, p_ref15_mod N x = some r := by
  refine Spec_of (ks := p_ref15_mod_ks) (rs := p_ref15_mod_rs) fun x hw _ => ⟨0, ?_⟩
  obtain ⟨(z : Int), u⟩ := x
  have h := tmod_fix (a := z) (b := 8380417) (by omega)
  have h1 := Int.emod_nonneg z (show (8380417 : Int) ≠ 0 by omega)
  have h2 := Int.emod_lt_of_pos z (show (0 : Int) < 8380417 by omega)
  unfold p_ref15_mod
  simp only at h ⊢
  split
  · rename_i hlt
    rw [if_pos hlt] at h
    rw [h, wrap_i64 (by omega) (by omega)]
  · rename_i hlt
    rw [if_neg hlt] at h
    rw [h]

theorem at_below {z : Int} (h1 : -9223372036854775808 ≤ z) (h2 : z ≤ 9223372036854775807) : g_dring_below (z, ()) = some (z % 8380417) :=
  Spec_at (ks := p_dring_below_ks) (rs := p_dring_below_rs) (x := (z, ())) ⟨okInt_i64.2 ⟨h1, h2⟩, trivial⟩ trivial
theorem at_mod {z : Int} (h1 : -9223372036854775808 ≤ z) (h2 : z ≤ 9223372036854775807) : g_ref15_mod (z, ()) = some (z % 8380417) :=
  Spec_at (ks := p_ref15_mod_ks) (rs := p_ref15_mod_rs) (x := (z, ())) ⟨okInt_i64.2 ⟨h1, h2⟩, trivial⟩ trivial

theorem q_dring_Reduce_1 : ∀ x r, g_dring_Reduce_1 x = some r → ∃ N, p_dring_Reduce_1 N x = some r := by
  refine Spec_of (ks := p_dring_Reduce_1_ks) (rs := p_dring_Reduce_1_rs) fun x hw _ => ⟨0, ?_⟩
  obtain ⟨(z : Int), u⟩ := x
  have hz := okInt_i32.1 hw.1
  simp only at hz
  unfold p_dring_Reduce_1
  simp only
  rw [wrap_i64 (by omega) (by omega), at_below (by omega) (by omega)]
  rfl
theorem at_Reduce_1 {z : Int} (h1 : -2147483648 ≤ z) (h2 : z ≤ 2147483647) : g_dring_Reduce_1 (z, ()) = some (z % 8380417) :=
  Spec_at (ks := p_dring_Reduce_1_ks) (rs := p_dring_Reduce_1_rs) (x := (z, ())) ⟨okInt_i32.2 ⟨h1, h2⟩, trivial⟩ trivial

theorem q_dring_each__dring_Reduce_1 : ∀ x r, g_dring_each__dring_Reduce_1 x = some r → ∃ N, p_dring_each__dring_Reduce_1 N x = some r := by
  refine Spec_of (ks := p_dring_each__dring_Reduce_1_ks) (rs := p_dring_each__dring_Reduce_1_rs) fun x hw _ => ⟨257, ?_⟩
  obtain ⟨(a : List Int), u, u'⟩ := x
  have ha : i32s 256 a := wf_i32s.1 hw.1
  have hl := ha.1
  unfold p_dring_each__dring_Reduce_1
  refine (iter_run (s := fun i => (a, (i : Int), part (fun i => a.getD i 0 % 8380417) i a, List.replicate 256 0, ())) (y := (fDRed a, List.replicate 256 0, ())) 256 ?_ ?_ 257 (by omega)).trans ?_
  · intro i hi kn
    have h0 := i32_at ha i
    unfold p_dring_each__dring_Reduce_1_l2_F
    simp (disch := omega) only [if_pos, wrap_i64, Int.toNat_natCast, at_Reduce_1, Option.bind_some]
    rw [part_set' (by omega) rfl, Int.natCast_add]
    rfl
  · intro kn
    unfold p_dring_each__dring_Reduce_1_l2_F
    simp (disch := omega) only [if_neg]
    rw [part_all hl]
    rfl
  · rfl
theorem q_dring_Reduce : ∀ x r, g_dring_Reduce x = some r → ∃ N, p_dring_Reduce N x = some r := by
  refine Spec_of (ks := p_dring_Reduce_ks) (rs := p_dring_Reduce_rs) fun x hw _ => ⟨0, ?_⟩
  obtain ⟨(a : List Int), u⟩ := x
  unfold p_dring_Reduce
  have h : g_dring_each__dring_Reduce_1 (a, (), ()) = some (fDRed a) := Spec_at (ks := p_dring_each__dring_Reduce_1_ks) (rs := p_dring_each__dring_Reduce_1_rs) (x := (a, (), ())) ⟨hw.1, trivial, trivial⟩ trivial
  simp only
  rw [h]
  rfl
theorem at_Reduce {a : List Int} (h : i32s 256 a) : g_dring_Reduce (a, ()) = some (fDRed a) :=
  Spec_at (ks := p_dring_Reduce_ks) (rs := p_dring_Reduce_rs) (x := (a, ())) (wf_d1.2 h) trivial

theorem q_ref15_Reduce : ∀ x r, g_ref15_Reduce x = some r → ∃ N, p_ref15_Reduce N x = some r := by
  refine Spec_of (ks := p_ref15_Reduce_ks) (rs := p_ref15_Reduce_rs) fun x hw _ => ⟨257, ?_⟩
  obtain ⟨(a : List Int), u⟩ := x
  have ha := wf_d1.1 hw
  have hl := ha.1
  unfold p_ref15_Reduce
  refine (iter_run (s := fun i => ((i : Int), part (fun i => a.getD i 0 % 8380417) i a, List.replicate 256 0, ())) (y := (fDRed a, List.replicate 256 0, ())) 256 ?_ ?_ 257 (by omega)).trans ?_
  · intro i hi kn
    have h0 := i32_at ha i
    have hm : ∀ z : Int, 0 ≤ z % 8380417 ∧ z % 8380417 < 8380417 := fun z => by omega
    have hm0 := hm (a.getD i 0)
    unfold p_ref15_Reduce_l2_F
    simp (disch := omega) only [if_pos, wrap_i64, Int.toNat_natCast, part_getD_self, at_mod, Option.bind_some, wrap_i32]
    rw [part_set' (by omega) rfl, Int.natCast_add]
    rfl
  · intro kn
    unfold p_ref15_Reduce_l2_F
    simp (disch := omega) only [if_neg]
    rw [part_all hl]
    rfl
  · rfl
theorem q_dring_near : ∀ x r, g_dring_near x = some r → ∃ N, p_dring_near N x = some r := by
  refine Spec_of (ks := p_dring_near_ks) (rs := p_dring_near_rs) fun x hw hq => ⟨0, ?_⟩
  obtain ⟨(z : Int), (m : Int), u⟩ := x
  obtain ⟨h1, h2, h3, h4⟩ : 0 ≤ z ∧ z ≤ 8380416 ∧ 0 < m ∧ m ≤ 523776 := hq
  have e1 := Int.emod_nonneg z (show m ≠ 0 by omega)
  have e2 := Int.emod_lt_of_pos z h3
  unfold p_dring_near fNear
  simp only [tmod_pos h1, tdiv_pos (show (0 : Int) ≤ m by omega)]
  rw [if_neg (by omega), wrap_i32 (x := m / 2) (by omega) (by omega)]
  split
  · rw [wrap_i32 (by omega) (by omega)]
  · rfl
theorem at_near {z m : Int} (h1 : 0 ≤ z) (h2 : z ≤ 8380416) (h3 : 0 < m) (h4 : m ≤ 523776) : g_dring_near (z, m, ()) = some (fNear z m) :=
  Spec_at (ks := p_dring_near_ks) (rs := p_dring_near_rs) (x := (z, m, ())) ⟨okInt_i32.2 ⟨by omega, by omega⟩, okInt_i32.2 ⟨show -2147483648 ≤ m by omega, show m ≤ 2147483647 by omega⟩, trivial⟩ ⟨h1, h2, h3, h4⟩
theorem fNear_bound {z m : Int} (hz : 0 ≤ z) (h3 : 0 < m) : fNear z m ≤ m / 2 ∧ 2 * fNear z m ≥ -m ∧ fNear z m ≤ z ∧ z - fNear z m ≤ z + m := by
  have e1 := Int.emod_nonneg z (show m ≠ 0 by omega)
  have e2 := Int.emod_lt_of_pos z h3
  have e3 : z % m ≤ z := by
    have := Int.mul_ediv_add_emod z m
    have := Int.mul_nonneg (show 0 ≤ m by omega) (Int.ediv_nonneg hz (show 0 ≤ m by omega))
    omega
  unfold fNear
  split <;> omega

theorem q_dring_parts : ∀ x r, g_dring_parts x = some r → ∃ N, p_dring_parts N x = some r := by
  refine Spec_of (ks := p_dring_parts_ks) (rs := p_dring_parts_rs) fun x hw _ => ⟨0, ?_⟩
  obtain ⟨(z : Int), u⟩ := x
  have hz := okInt_i32.1 hw.1
  simp only at hz
  have h1 : 0 ≤ z % 8380417 ∧ z % 8380417 ≤ 8380416 := by omega
  have hb := fNear_bound (z := z % 8380417) (m := 523776) (by omega) (by omega)
  unfold p_dring_parts fDh fDl fDl0
  simp (disch := omega) only [wrap_i64, at_below, at_near, Option.bind_some, wrap_i32]
  generalize fNear (z % 8380417) 523776 = y at hb
  generalize z % 8380417 = x at h1 hb
  rw [tdiv_pos (by omega), wrap_i32 (x := (x - y) / 523776) (by omega) (by omega)]
  split <;> rfl
theorem at_parts {z : Int} (h1 : -2147483648 ≤ z) (h2 : z ≤ 2147483647) : g_dring_parts (z, ()) = some (fDh z, fDl z) :=
  Spec_at (ks := p_dring_parts_ks) (rs := p_dring_parts_rs) (x := (z, ())) ⟨okInt_i32.2 ⟨h1, h2⟩, trivial⟩ trivial

theorem ishr_i32 {x d : Int} (h : 0 ≤ d) (h1 : d ≤ 31) : ishr .i32 x d = x / 2 ^ d.toNat := by
  unfold ishr
  rw [show min d.toNat IntKind.i32.bits = d.toNat by simp [IntKind.bits]; omega]
  exact Int.fdiv_eq_ediv_of_nonneg _ (Int.le_of_lt (Int.pow_pos (by omega)))

theorem q_dring_Power2Round : ∀ x r, g_dring_Power2Round x = some r → ∃ N, p_dring_Power2Round N x = some r := by
  refine Spec_of (ks := p_dring_Power2Round_ks) (rs := p_dring_Power2Round_rs) fun x hw _ => ⟨257, ?_⟩
  obtain ⟨(a : List Int), u⟩ := x
  have ha := wf_d1.1 hw
  have hl := ha.1
  unfold p_dring_Power2Round
  have hz : (List.replicate 256 (0 : Int)).length = 256 := List.length_replicate ..
  generalize List.replicate 256 (0 : Int) = Z at hz ⊢
  simp only [at_Reduce ha, Option.bind_some]
  refine (iter_run (s := fun i => (fDRed a, (i : Int), part (fun i => fPh (a.getD i 0)) i (Z), part (fun i => fPl (a.getD i 0)) i (Z), ())) (y := (dpoly fun i => fPh (a.getD i 0), dpoly fun i => fPl (a.getD i 0), ())) 256 ?_ ?_ 257 (by omega)).trans ?_
  · intro i hi kn
    have h0 := fDRed_at a i
    have hb := fNear_bound (z := a.getD i 0 % 8380417) (m := 8192) (by omega) (by omega)
    have hp : ∀ h : Nat → Int, (part h i (Z)).length = 256 := fun h => by rw [part_length (by omega), hz]
    have hp1 := hp (fun i => fPh (a.getD i 0))
    have hp2 := hp (fun i => fPl (a.getD i 0))
    unfold p_dring_Power2Round_l2_F
    simp (disch := omega) only [if_pos, wrap_i64, Int.toNat_natCast, at_near, Option.bind_some, getD_set_eq, fDRed_getD, wrap_i32, ishr_i32]
    rw [part_set' (h := fun i => fPh (a.getD i 0)) (by omega) (by simp only [fPh, fPl]; rfl), part_set' (h := fun i => fPl (a.getD i 0)) (z := fNear (a.getD i 0 % 8380417) 8192) (by omega) rfl, Int.natCast_add]
    rfl
  · intro kn
    unfold p_dring_Power2Round_l2_F
    simp (disch := omega) only [if_neg]
    rw [part_all hz, part_all hz]
    rfl
  · rfl
theorem q_dring_Decompose : ∀ x r, g_dring_Decompose x = some r → ∃ N, p_dring_Decompose N x = some r := by
  refine Spec_of (ks := p_dring_Decompose_ks) (rs := p_dring_Decompose_rs) fun x hw _ => ⟨257, ?_⟩
  obtain ⟨(a : List Int), u⟩ := x
  have ha := wf_d1.1 hw
  have hl := ha.1
  unfold p_dring_Decompose
  have hz : (List.replicate 256 (0 : Int)).length = 256 := List.length_replicate ..
  generalize List.replicate 256 (0 : Int) = Z at hz ⊢
  refine (iter_run (s := fun i => (a, (i : Int), part (fun i => fDh (a.getD i 0)) i (Z), part (fun i => fDl (a.getD i 0)) i (Z), ())) (y := (dpoly fun i => fDh (a.getD i 0), dpoly fun i => fDl (a.getD i 0), ())) 256 ?_ ?_ 257 (by omega)).trans ?_
  · intro i hi kn
    have h0 := i32_at ha i
    unfold p_dring_Decompose_l2_F
    simp (disch := omega) only [if_pos, wrap_i64, Int.toNat_natCast, at_parts, Option.bind_some]
    rw [part_set' (h := fun i => fDh (a.getD i 0)) (by omega) rfl, part_set' (h := fun i => fDl (a.getD i 0)) (by omega) rfl, Int.natCast_add]
    rfl
  · intro kn
    unfold p_dring_Decompose_l2_F
    simp (disch := omega) only [if_neg]
    rw [part_all hz, part_all hz]
    rfl
  · rfl
theorem at_P2R {a : List Int} (h : i32s 256 a) : g_dring_Power2Round (a, ()) = some (fP2R a) :=
  Spec_at (ks := p_dring_Power2Round_ks) (rs := p_dring_Power2Round_rs) (x := (a, ())) (wf_d1.2 h) trivial
theorem at_Dec {a : List Int} (h : i32s 256 a) : g_dring_Decompose (a, ()) = some (fDec a) :=
  Spec_at (ks := p_dring_Decompose_ks) (rs := p_dring_Decompose_rs) (x := (a, ())) (wf_d1.2 h) trivial
theorem q_law15_live : ∀ x r, g_law15_live x = some r → ∃ N, p_law15_live N x = some r := by
  refine Spec_of (ks := p_law15_live_ks) (rs := p_law15_live_rs) fun x hw _ => ⟨0, ?_⟩
  unfold p_law15_live
  have h1 : i32s 256 ((List.replicate 256 (0 : Int)).set 0 8380416) := (rows.zero (by omega) 256).set (by omega)
  have h2 : i32s 256 ((List.replicate 256 (0 : Int)).set 0 4097) := (rows.zero (by omega) 256).set (by omega)
  rw [at_Dec h1, at_P2R h2]
  decide +kernel

end Go.Ax.TryP
/-! ### Centred numbers, sums, hints -/
namespace Go.Ax.TryP
def fCen (z : Int) : Int := if z % 8380417 > 4190208 then z % 8380417 - 8380417 else z % 8380417
def fDCen (a : List Int) : List Int := dpoly fun i => fCen (a.getD i 0)
def iabs (z : Int) : Int := if z < 0 then -z else z
@[irreducible] def normN (a : List Int) (n : Nat) : Int := (List.range n).foldl (fun m i => if iabs (fCen (a.getD i 0)) > m then iabs (fCen (a.getD i 0)) else m) 0
def fNorm (a : List Int) : Int := normN a 256
def fDAdd (a b : List Int) : List Int := dpoly fun i => (a.getD i 0 + b.getD i 0) % 8380417
def fDSub (a b : List Int) : List Int := dpoly fun i => (a.getD i 0 - b.getD i 0) % 8380417
def hintAt (z r : List Int) (i : Nat) : Int := if fDh (r.getD i 0) ≠ fDh ((r.getD i 0 + z.getD i 0) % 8380417) then 1 else 0
@[irreducible] def cntN (h : Nat → Int) (n : Nat) : Int := (List.range n).foldl (fun m i => if h i ≠ 0 then m + 1 else m) 0
def fHint (z r : List Int) : List Int × Int := (dpoly (hintAt z r), cntN (hintAt z r) 256)
def useAt (h r : Int) : Int := if h ≠ 0 then if fDl r > 0 then (fDh r + 1) % 16 else (fDh r + 15) % 16 else fDh r
def fUse (h r : List Int) : List Int := dpoly fun i => useAt (h.getD i 0) (r.getD i 0)

abbrev DP : Kd := .xs (.int .i32) 256
abbrev HP : Kd := .xs .bool 256
noncomputable def g_dring_centred : Int × Unit → Option Int := Spec (ks := [.int .i32]) (rs := [.int .i32]) (fun _ => True) fun x => fCen x.1
noncomputable def g_dring_each__dring_centred : List Int × Unit × Unit → Option (List Int) := Spec (ks := [.xs (.int .i32) 256, .fnc 67]) (rs := [.xs (.int .i32) 256]) (fun _ => True) fun x => fDCen x.1
noncomputable def g_dring_Center : List Int × Unit → Option (List Int) := Spec (ks := [.xs (.int .i32) 256]) (rs := [.xs (.int .i32) 256]) (fun _ => True) fun x => fDCen x.1
noncomputable def g_ref15_Center : List Int × Unit → Option (List Int) := Spec (ks := [.xs (.int .i32) 256]) (rs := [.xs (.int .i32) 256]) (fun _ => True) fun x => fDCen x.1
noncomputable def g_dring_Norm : List Int × Unit → Option Int := Spec (ks := [.xs (.int .i32) 256]) (rs := [.int .i32]) (fun _ => True) fun x => fNorm x.1
noncomputable def g_ref15_size : Int × Unit → Option Int := Spec (ks := [.int .i32]) (rs := [.int .i32]) (fun x => -2147483648 < x.1) fun x => iabs x.1
noncomputable def g_ref15_Norm : List Int × Unit → Option Int := Spec (ks := [.xs (.int .i32) 256]) (rs := [.int .i32]) (fun _ => True) fun x => fNorm x.1
noncomputable def g_dring_Add : List Int × List Int × Unit → Option (List Int) := Spec (ks := [.xs (.int .i32) 256, .xs (.int .i32) 256]) (rs := [.xs (.int .i32) 256]) (fun _ => True) fun x => fDAdd x.1 x.2.1
noncomputable def g_ref15_Add : List Int × List Int × Unit → Option (List Int) := Spec (ks := [.xs (.int .i32) 256, .xs (.int .i32) 256]) (rs := [.xs (.int .i32) 256]) (fun _ => True) fun x => fDAdd x.1 x.2.1
noncomputable def g_dring_Sub : List Int × List Int × Unit → Option (List Int) := Spec (ks := [.xs (.int .i32) 256, .xs (.int .i32) 256]) (rs := [.xs (.int .i32) 256]) (fun _ => True) fun x => fDSub x.1 x.2.1
noncomputable def g_ref15_Sub : List Int × List Int × Unit → Option (List Int) := Spec (ks := [.xs (.int .i32) 256, .xs (.int .i32) 256]) (rs := [.xs (.int .i32) 256]) (fun _ => True) fun x => fDSub x.1 x.2.1
noncomputable def g_dring_MakeHint : List Int × List Int × Unit → Option (List Int × Int) := Spec (ks := [.xs (.int .i32) 256, .xs (.int .i32) 256]) (rs := [.xs .bool 256, .int .i64]) (fun _ => True) fun x => fHint x.1 x.2.1
noncomputable def g_ref15_MakeHint : List Int × List Int × Unit → Option (List Int × Int) := Spec (ks := [.xs (.int .i32) 256, .xs (.int .i32) 256]) (rs := [.xs .bool 256, .int .i64]) (fun _ => True) fun x => fHint x.1 x.2.1
noncomputable def g_dring_UseHint : List Int × List Int × Unit → Option (List Int) := Spec (ks := [.xs .bool 256, .xs (.int .i32) 256]) (rs := [.xs (.int .i32) 256]) (fun _ => True) fun x => fUse x.1 x.2.1
noncomputable def g_ref15_UseHint : List Int × List Int × Unit → Option (List Int) := Spec (ks := [.xs .bool 256, .xs (.int .i32) 256]) (rs := [.xs (.int .i32) 256]) (fun _ => True) fun x => fUse x.1 x.2.1
noncomputable def g_law15_DringParts : List Int × Unit → Option Bool := Spec (ks := [.xs (.int .i32) 256]) (rs := [.bool]) (fun _ => True) fun _ => true
noncomputable def g_law15_DringHints : List Int × List Int × List Int × Unit → Option Bool := Spec (ks := [.xs (.int .i32) 256, .xs (.int .i32) 256, .xs .bool 256]) (rs := [.bool]) (fun _ => True) fun _ => true
noncomputable def g_law15_DringMends : List Int × List Int × Unit → Option Bool := Spec (ks := [.xs (.int .i32) 256, .xs (.int .i32) 256]) (rs := [.bool]) (fun _ => True) fun _ => true

end Go.Ax.TryP
/-! ### The transform modulo 8380417, as mathematics -/
namespace Go.Ax.TryP
theorem dpoly_congr {h h' : Nat → Int} (e : ∀ i, i < 256 → h i = h' i) : dpoly h = dpoly h' := List.map_congr_left fun i hi => e i (List.mem_range.1 hi)
theorem dpoly_set {h h' : Nat → Int} {j : Nat} {v : Int} (hj : h' j = v) (e : ∀ i, i < 256 → i ≠ j → h' i = h i) : (dpoly h).set j v = dpoly h' := by
  apply List.ext_getElem?
  intro i
  rw [List.getElem?_set]
  by_cases hij : j = i
  · subst hij
    simp only [if_true]
    by_cases hl : j < 256
    · simp [dpoly, hl, hj]
    · simp [dpoly, hl]
  · rw [if_neg hij]
    by_cases hl : i < 256
    · simp [dpoly, hl, e i hl (Ne.symm hij)]
    · simp [dpoly, hl]
theorem dpoly_self {a : List Int} (h : a.length = 256) : dpoly (fun i => a.getD i 0) = a := by
  apply List.ext_getElem?
  intro i
  by_cases hl : i < 256
  · simp [dpoly, hl, List.getD_eq_getElem?_getD, List.getElem?_eq_getElem (show i < a.length by omega)]
  · simp [dpoly, hl, List.getElem?_eq_none (show a.length ≤ i by omega)]

def dred (a : List Int) : Prop := a.length = 256 ∧ ∀ i, 0 ≤ a.getD i 0 ∧ a.getD i 0 < 8380417
theorem dred_fRed (a : List Int) : dred (fDRed a) := ⟨(fDRed_ok a).1, fun i => by have := fDRed_at a i; omega⟩
theorem dred_poly {h : Nat → Int} (hh : ∀ i, i < 256 → 0 ≤ h i ∧ h i < 8380417) : dred (dpoly h) := by
  refine ⟨by simp [dpoly], fun i => ?_⟩
  by_cases hi : i < 256
  · rw [dpoly_getD hi]; exact hh i hi
  · rw [List.getD_eq_getElem?_getD, List.getElem?_eq_none (by simp [dpoly]; omega)]; simp
theorem dred.i32 {a : List Int} (h : dred a) : i32s 256 a := by
  refine ⟨h.1, fun z hz => ?_⟩
  obtain ⟨i, hi, rfl⟩ := List.getElem_of_mem hz
  have := h.2 i
  rw [List.getD_eq_getElem?_getD, List.getElem?_eq_getElem hi] at this
  simp only [Option.getD_some] at this
  omega
theorem dnval_bound (s : Nat) (a : List Int) (j : Nat) : 0 ≤ dnval s a j ∧ dnval s a j < 8380417 := by unfold dnval; split <;> omega
theorem dred_nLayer (s : Nat) (a : List Int) : dred (dnLayer s a) := by exact dred_poly fun i _ => dnval_bound s a i

theorem dnval_lo {s m b r : Nat} (hm : s * m = 128) (hs : 0 < s) (hr : r < s) (a : List Int) : dnval s a (2 * s * b + r) = (a.getD (2 * s * b + r) 0 + dzeta (m + b) * a.getD (2 * s * b + r + s) 0 % 8380417) % 8380417 := by
  have e1 : (2 * s * b + r) % (2 * s) = r := by rw [Nat.mul_add_mod]; exact Nat.mod_eq_of_lt (by omega)
  have e2 : (2 * s * b + r) / (2 * s) = b := by rw [Nat.mul_add_div (by omega), Nat.div_eq_of_lt (by omega), Nat.add_zero]
  have e3 : 128 / s = m := by rw [← hm, Nat.mul_div_cancel_left _ hs]
  unfold dnval
  rw [e1, e2, e3, if_pos hr]
theorem dnval_hi {s m b r : Nat} (hm : s * m = 128) (hs : 0 < s) (hr : r < s) (a : List Int) : dnval s a (2 * s * b + r + s) = (a.getD (2 * s * b + r) 0 - dzeta (m + b) * a.getD (2 * s * b + r + s) 0 % 8380417) % 8380417 := by
  have e1 : (2 * s * b + r + s) % (2 * s) = r + s := by rw [Nat.add_assoc, Nat.mul_add_mod]; exact Nat.mod_eq_of_lt (by omega)
  have e2 : (2 * s * b + r + s) / (2 * s) = b := by rw [Nat.add_assoc, Nat.mul_add_div (by omega), Nat.div_eq_of_lt (by omega), Nat.add_zero]
  have e3 : 128 / s = m := by rw [← hm, Nat.mul_div_cancel_left _ hs]
  unfold dnval
  rw [e1, e2, e3, if_neg (by omega), Nat.add_sub_cancel]

theorem dival_bound (s : Nat) (a : List Int) (j : Nat) : 0 ≤ dival s a j ∧ dival s a j < 8380417 := by unfold dival; split <;> omega
theorem dred_iLayer (s : Nat) (a : List Int) : dred (diLayer s a) := dred_poly fun i _ => dival_bound s a i
theorem dred_iStage (a : List Int) : ∀ i, dred (diStage a i)
  | 0 => dred_fRed a
  | _ + 1 => dred_iLayer _ _
theorem dival_lo {s b r : Nat} (hs : 0 < s) (hr : r < s) (a : List Int) : dival s a (2 * s * b + r) = (a.getD (2 * s * b + r) 0 + a.getD (2 * s * b + r + s) 0) % 8380417 := by
  have e1 : (2 * s * b + r) % (2 * s) = r := by rw [Nat.mul_add_mod]; exact Nat.mod_eq_of_lt (by omega)
  unfold dival
  rw [e1, if_pos hr]
theorem dival_hi {s m b r : Nat} (hm : s * m = 128) (hs : 0 < s) (hr : r < s) (a : List Int) : dival s a (2 * s * b + r + s) = dzeta (2 * m - 1 - b) * (a.getD (2 * s * b + r + s) 0 - a.getD (2 * s * b + r) 0) % 8380417 := by
  have e1 : (2 * s * b + r + s) % (2 * s) = r + s := by rw [Nat.add_assoc, Nat.mul_add_mod]; exact Nat.mod_eq_of_lt (by omega)
  have e2 : (2 * s * b + r + s) / (2 * s) = b := by rw [Nat.add_assoc, Nat.mul_add_div (by omega), Nat.div_eq_of_lt (by omega), Nat.add_zero]
  have e3 : 128 / s = m := by rw [← hm, Nat.mul_div_cancel_left _ hs]
  unfold dival
  rw [e1, e2, e3, if_neg (by omega), Nat.add_sub_cancel]

/-- Alike modulo 8380417. -/
def dcg (x y : Int) : Prop := ∃ k : Int, x = y + 8380417 * k
theorem dcg.refl (x : Int) : dcg x x := ⟨0, by omega⟩
theorem dcg.of_eq {x y : Int} (h : x = y) : dcg x y := by subst h; exact dcg.refl _
theorem dcg.symm {x y : Int} (h : dcg x y) : dcg y x := by obtain ⟨k, h⟩ := h; exact ⟨-k, by omega⟩
theorem dcg.trans {x y z : Int} (h : dcg x y) (g : dcg y z) : dcg x z := by obtain ⟨k, h⟩ := h; obtain ⟨l, g⟩ := g; exact ⟨k + l, by omega⟩
theorem dcg.add {x y z w : Int} (h : dcg x y) (g : dcg z w) : dcg (x + z) (y + w) := by obtain ⟨k, h⟩ := h; obtain ⟨l, g⟩ := g; exact ⟨k + l, by omega⟩
theorem dcg.sub {x y z w : Int} (h : dcg x y) (g : dcg z w) : dcg (x - z) (y - w) := by obtain ⟨k, h⟩ := h; obtain ⟨l, g⟩ := g; exact ⟨k - l, by omega⟩
theorem dcg.mul {x y z w : Int} (h : dcg x y) (g : dcg z w) : dcg (x * z) (y * w) := by
  obtain ⟨k, h⟩ := h; obtain ⟨l, g⟩ := g
  exact ⟨y * l + k * w + 8380417 * (k * l), by subst h; subst g; grind⟩
theorem dcg.mod (x : Int) : dcg (x % 8380417) x := ⟨-(x / 8380417), by omega⟩
theorem dcg.plus (x : Int) : dcg (x + 8380417) x := ⟨1, by omega⟩
theorem dcg.eq {x y : Int} (h : dcg x y) (hx : 0 ≤ x ∧ x < 8380417) (hy : 0 ≤ y ∧ y < 8380417) : x = y := by obtain ⟨k, h⟩ := h; omega
theorem dcg.emod {x y : Int} (h : dcg x y) : x % 8380417 = y % 8380417 := by obtain ⟨k, h⟩ := h; omega

theorem dsplit_at {s m : Nat} (hm : s * m = 128) (hs : 0 < s) {j : Nat} (hj : j < 256) : ∃ b r, b < m ∧ r < s ∧ (j = 2 * s * b + r ∨ j = 2 * s * b + r + s) := by
  have h1 := Nat.div_add_mod j (2 * s)
  have h2 := Nat.mod_lt j (show 2 * s > 0 by omega)
  have hall : 2 * s * m = 256 := by rw [Nat.mul_assoc, hm]
  have hb : j / (2 * s) < m := by rw [Nat.div_lt_iff_lt_mul (by omega), Nat.mul_comm, hall]; exact hj
  by_cases hr : j % (2 * s) < s
  · exact ⟨_, _, hb, hr, .inl h1.symm⟩
  · exact ⟨j / (2 * s), j % (2 * s) - s, hb, by omega, .inr (by omega)⟩

theorem dblock_le {s m b r : Nat} (hm : s * m = 128) (hb : b < m) (hr : r < s) : 2 * s * b + r + s < 256 := by
  have h1 : s * (b + 1) ≤ s * m := Nat.mul_le_mul_left _ (by omega)
  rw [hm, Nat.mul_add] at h1
  rw [Nat.mul_assoc]
  omega

/-- c x + d y = z, number by number. -/
def dlin (c d : Int) (x y z : List Int) : Prop := ∀ i, i < 256 → dcg (z.getD i 0) (c * x.getD i 0 + d * y.getD i 0)

theorem dnl_lo {s m b r : Nat} (hm : s * m = 128) (hs : 0 < s) (hb : b < m) (hr : r < s) (a : List Int) :
    dcg ((dnLayer s a).getD (2 * s * b + r) 0) (a.getD (2 * s * b + r) 0 + dzeta (m + b) * a.getD (2 * s * b + r + s) 0) := by
  have hl := dblock_le hm hb hr
  rw [dnLayer, dpoly_getD (by omega), dnval_lo hm hs hr]
  exact (dcg.mod _).trans ((dcg.refl _).add (dcg.mod _))
theorem dnl_hi {s m b r : Nat} (hm : s * m = 128) (hs : 0 < s) (hb : b < m) (hr : r < s) (a : List Int) :
    dcg ((dnLayer s a).getD (2 * s * b + r + s) 0) (a.getD (2 * s * b + r) 0 - dzeta (m + b) * a.getD (2 * s * b + r + s) 0) := by
  have hl := dblock_le hm hb hr
  rw [dnLayer, dpoly_getD (by omega), dnval_hi hm hs hr]
  exact (dcg.mod _).trans ((dcg.refl _).sub (dcg.mod _))
theorem dil_lo {s m b r : Nat} (hm : s * m = 128) (hs : 0 < s) (hb : b < m) (hr : r < s) (a : List Int) :
    dcg ((diLayer s a).getD (2 * s * b + r) 0) (a.getD (2 * s * b + r) 0 + a.getD (2 * s * b + r + s) 0) := by
  have hl := dblock_le hm hb hr
  rw [diLayer, dpoly_getD (by omega), dival_lo hs hr]
  exact dcg.mod _
theorem dil_hi {s m b r : Nat} (hm : s * m = 128) (hs : 0 < s) (hb : b < m) (hr : r < s) (a : List Int) :
    dcg ((diLayer s a).getD (2 * s * b + r + s) 0) (dzeta (2 * m - 1 - b) * (a.getD (2 * s * b + r + s) 0 - a.getD (2 * s * b + r) 0)) := by
  have hl := dblock_le hm hb hr
  rw [diLayer, dpoly_getD (by omega), dival_hi hm hs hr]
  exact dcg.mod _

theorem dnl_lin {s m : Nat} (hm : s * m = 128) (hs : 0 < s) {c d : Int} {x y z : List Int} (h : dlin c d x y z) : dlin c d (dnLayer s x) (dnLayer s y) (dnLayer s z) := by
  intro i hi
  obtain ⟨b, r, hb, hr, hj | hj⟩ := dsplit_at hm hs hi
  · subst hj
    have hl := dblock_le hm hb hr
    have h1 := h (2 * s * b + r) (by omega)
    have h2 := h (2 * s * b + r + s) (by omega)
    refine (dnl_lo hm hs hb hr z).trans ((h1.add ((dcg.refl _).mul h2)).trans (dcg.symm ?_))
    refine (((dcg.refl c).mul (dnl_lo hm hs hb hr x)).add ((dcg.refl d).mul (dnl_lo hm hs hb hr y))).trans (dcg.of_eq ?_)
    grind
  · subst hj
    have hl := dblock_le hm hb hr
    have h1 := h (2 * s * b + r) (by omega)
    have h2 := h (2 * s * b + r + s) (by omega)
    refine (dnl_hi hm hs hb hr z).trans ((h1.sub ((dcg.refl _).mul h2)).trans (dcg.symm ?_))
    refine (((dcg.refl c).mul (dnl_hi hm hs hb hr x)).add ((dcg.refl d).mul (dnl_hi hm hs hb hr y))).trans (dcg.of_eq ?_)
    grind
theorem dil_lin {s m : Nat} (hm : s * m = 128) (hs : 0 < s) {c d : Int} {x y z : List Int} (h : dlin c d x y z) : dlin c d (diLayer s x) (diLayer s y) (diLayer s z) := by
  intro i hi
  obtain ⟨b, r, hb, hr, hj | hj⟩ := dsplit_at hm hs hi
  · subst hj
    have hl := dblock_le hm hb hr
    have h1 := h (2 * s * b + r) (by omega)
    have h2 := h (2 * s * b + r + s) (by omega)
    refine (dil_lo hm hs hb hr z).trans ((h1.add h2).trans (dcg.symm ?_))
    refine (((dcg.refl c).mul (dil_lo hm hs hb hr x)).add ((dcg.refl d).mul (dil_lo hm hs hb hr y))).trans (dcg.of_eq ?_)
    grind
  · subst hj
    have hl := dblock_le hm hb hr
    have h1 := h (2 * s * b + r) (by omega)
    have h2 := h (2 * s * b + r + s) (by omega)
    refine (dil_hi hm hs hb hr z).trans (((dcg.refl _).mul (h2.sub h1)).trans (dcg.symm ?_))
    refine (((dcg.refl c).mul (dil_hi hm hs hb hr x)).add ((dcg.refl d).mul (dil_hi hm hs hb hr y))).trans (dcg.of_eq ?_)
    grind

theorem dzeta_pairs : (List.range 8).all (fun t => (List.range (2 ^ t)).all fun b => dzeta (2 * 2 ^ t - 1 - b) * dzeta (2 ^ t + b) % 8380417 == 8380416) = true := by decide +kernel
theorem dzeta_pair {t b : Nat} (ht : t < 8) (hb : b < 2 ^ t) : dcg (dzeta (2 * 2 ^ t - 1 - b) * dzeta (2 ^ t + b)) (-1) := by
  have h1 := List.all_eq_true.1 dzeta_pairs t (List.mem_range.2 ht)
  have h2 := List.all_eq_true.1 h1 b (List.mem_range.2 hb)
  have h3 := eq_of_beq h2
  exact ⟨(dzeta (2 * 2 ^ t - 1 - b) * dzeta (2 ^ t + b)) / 8380417 + 1, by omega⟩

theorem dil_nl {s t : Nat} (ht : t < 8) (hm : s * 2 ^ t = 128) (hs : 0 < s) (x : List Int) : dlin 2 0 x x (diLayer s (dnLayer s x)) := by
  intro i hi
  obtain ⟨b, r, hb, hr, hj | hj⟩ := dsplit_at hm hs hi
  · subst hj
    refine (dil_lo hm hs hb hr _).trans (((dnl_lo hm hs hb hr x).add (dnl_hi hm hs hb hr x)).trans (dcg.of_eq ?_))
    grind
  · subst hj
    refine (dil_hi hm hs hb hr _).trans (((dcg.refl _).mul ((dnl_hi hm hs hb hr x).sub (dnl_lo hm hs hb hr x))).trans ?_)
    have hz := (dzeta_pair ht hb).mul (dcg.refl (-2 * x.getD (2 * s * b + r + s) 0))
    refine (dcg.of_eq ?_).trans (hz.trans (dcg.of_eq ?_)) <;> grind
theorem dnl_il {s t : Nat} (ht : t < 8) (hm : s * 2 ^ t = 128) (hs : 0 < s) (x : List Int) : dlin 2 0 x x (dnLayer s (diLayer s x)) := by
  intro i hi
  obtain ⟨b, r, hb, hr, hj | hj⟩ := dsplit_at hm hs hi
  · subst hj
    refine (dnl_lo hm hs hb hr _).trans (((dil_lo hm hs hb hr x).add ((dcg.refl _).mul (dil_hi hm hs hb hr x))).trans ?_)
    have hz := (dzeta_pair ht hb).mul (dcg.refl (x.getD (2 * s * b + r + s) 0 - x.getD (2 * s * b + r) 0))
    refine (dcg.of_eq ?_).trans (((dcg.refl (x.getD (2 * s * b + r) 0 + x.getD (2 * s * b + r + s) 0)).add hz).trans (dcg.of_eq ?_)) <;> grind
  · subst hj
    refine (dnl_hi hm hs hb hr _).trans (((dil_lo hm hs hb hr x).sub ((dcg.refl _).mul (dil_hi hm hs hb hr x))).trans ?_)
    have hz := (dzeta_pair ht hb).mul (dcg.refl (x.getD (2 * s * b + r + s) 0 - x.getD (2 * s * b + r) 0))
    refine (dcg.of_eq ?_).trans (((dcg.refl (x.getD (2 * s * b + r) 0 + x.getD (2 * s * b + r + s) 0)).sub hz).trans (dcg.of_eq ?_)) <;> grind
theorem dred_nStage (a : List Int) : ∀ i, dred (dnStage a i)
  | 0 => dred_fRed a
  | _ + 1 => dred_nLayer _ _
theorem dfNtt_eq (a : List Int) : fDNtt a = dnStage a 8 := rfl
def droot (i : Nat) : Int := 1753 ^ (2 * rev8 i + 1) % 8380417
theorem dlin.trans1 {c d : Int} {x y z : List Int} (h : dlin c 0 y y z) (g : dlin d 0 x x y) : dlin (c * d) 0 x x z := by
  intro i hi
  refine (h i hi).trans ((((dcg.refl c).mul (g i hi)).add (dcg.refl _)).trans (dcg.of_eq ?_))
  grind
theorem dnstage_facts : ∀ t, t < 8 → (128 / 2 ^ t) * 2 ^ t = 128 ∧ 0 < 128 / 2 ^ t ∧ 2 ^ (7 - t) = 128 / 2 ^ t := by decide
theorem dred_lin {a b : List Int} (ha : dred a) (hb : dred b) (h : dlin 1 0 a a b) : b = a := by
  rw [← dpoly_self ha.1, ← dpoly_self hb.1]
  refine dpoly_congr fun i hi => ?_
  have := h i hi
  exact dcg.eq (this.trans (dcg.of_eq (by grind))) (hb.2 i) (ha.2 i)
theorem dfRed_red {a : List Int} (h : dred a) : fDRed a = a := by
  conv => rhs; rw [← dpoly_self h.1]
  refine dpoly_congr fun i hi => ?_
  have := h.2 i
  omega
theorem dred_fNtt (a : List Int) : dred (fDNtt a) := by rw [dfNtt_eq]; exact dred_nStage a 8
theorem dred_fInv (a : List Int) : dred (fDInv a) := dred_poly fun i _ => by omega

/-- Back from the transform, k layers. -/
theorem dback_stage (a : List Int) : ∀ k, k ≤ 8 → dlin (2 ^ k) 0 (dnStage a (8 - k)) (dnStage a (8 - k)) (diStage (fDNtt a) k)
  | 0, _ => by
    rw [diStage, dfRed_red (dred_fNtt a), dfNtt_eq]
    intro i _
    exact dcg.of_eq (by grind)
  | k + 1, hk => by
    have ih := dback_stage a k (by omega)
    obtain ⟨f1, f2, f3⟩ := dnstage_facts (7 - k) (by omega)
    rw [show 7 - (7 - k) = k by omega] at f3
    have e : 8 - k = (7 - k) + 1 := by omega
    have e2 : 8 - (k + 1) = 7 - k := by omega
    rw [e, dnStage] at ih
    rw [diStage, e2, f3]
    have h1 := dil_lin f1 f2 ih
    have h2 := dil_nl (by omega) f1 f2 (dnStage a (7 - k))
    have := h1.trans1 h2
    rwa [Int.pow_succ]
theorem dfInv_fNtt (a : List Int) : fDInv (fDNtt a) = fDRed a := by
  have h := dback_stage a 8 (Nat.le_refl _)
  rw [Nat.sub_self, dnStage] at h
  refine dred_lin (dred_fRed a) (dred_fInv _) ?_
  intro i hi
  rw [fDInv, dpoly_getD hi]
  refine (dcg.mod _).trans (((h i hi).mul (dcg.refl 8347681)).trans ⟨255 * (fDRed a).getD i 0, by grind⟩)

theorem dthere_stage (a : List Int) : ∀ k, k ≤ 8 → dlin (8347681 * 2 ^ k) 0 (diStage a (8 - k)) (diStage a (8 - k)) (dnStage (fDInv a) k)
  | 0, _ => by
    rw [dnStage, dfRed_red (dred_fInv a)]
    intro i hi
    rw [fDInv, dpoly_getD hi]
    exact (dcg.mod _).trans (dcg.of_eq (by grind))
  | k + 1, hk => by
    have ih := dthere_stage a k (by omega)
    obtain ⟨f1, f2, f3⟩ := dnstage_facts k (by omega)
    have e : 8 - k = (7 - k) + 1 := by omega
    have e2 : 8 - (k + 1) = 7 - k := by omega
    rw [e, diStage, f3] at ih
    rw [dnStage, e2]
    have h1 := dnl_lin f1 f2 ih
    have h2 := dnl_il (by omega) f1 f2 (diStage a (7 - k))
    have := h1.trans1 h2
    rwa [Int.pow_succ, ← Int.mul_assoc]
theorem dfNtt_fInv (a : List Int) : fDNtt (fDInv a) = fDRed a := by
  have h := dthere_stage a 8 (Nat.le_refl _)
  rw [Nat.sub_self, diStage, ← dfNtt_eq] at h
  refine dred_lin (dred_fRed a) (dred_fNtt _) ?_
  intro i hi
  refine (h i hi).trans ⟨255 * (fDRed a).getD i 0, by grind⟩

theorem dnStage_lin {c d : Int} {x y z : List Int} (h : dlin c d (fDRed x) (fDRed y) (fDRed z)) : ∀ k, k ≤ 8 → dlin c d (dnStage x k) (dnStage y k) (dnStage z k)
  | 0, _ => h
  | k + 1, hk => by
    obtain ⟨f1, f2, _⟩ := dnstage_facts k (by omega)
    exact dnl_lin f1 f2 (dnStage_lin h k (by omega))
theorem diStage_lin {c d : Int} {x y z : List Int} (h : dlin c d (fDRed x) (fDRed y) (fDRed z)) : ∀ k, k ≤ 8 → dlin c d (diStage x k) (diStage y k) (diStage z k)
  | 0, _ => h
  | k + 1, hk => by
    obtain ⟨f1, f2, f3⟩ := dnstage_facts (7 - k) (by omega)
    rw [show 7 - (7 - k) = k by omega] at f3
    rw [diStage, diStage, diStage, f3]
    exact dil_lin f1 f2 (diStage_lin h k (by omega))
theorem dred_fAdd (a b : List Int) : dred (fDAdd a b) := dred_poly fun i _ => by omega
theorem dred_fSub (a b : List Int) : dred (fDSub a b) := dred_poly fun i _ => by omega
theorem dred_fMulN (a b : List Int) : dred (fDMulN a b) := dred_poly fun i _ => by omega
theorem dadd_lin (a b : List Int) : dlin 1 1 (fDRed a) (fDRed b) (fDRed (fDAdd a b)) := by
  intro i hi
  rw [dfRed_red (dred_fAdd a b), fDAdd, dpoly_getD hi, fDRed, dpoly_getD hi, fDRed, dpoly_getD hi]
  refine (dcg.mod _).trans (dcg.symm ((((dcg.refl 1).mul (dcg.mod _)).add ((dcg.refl 1).mul (dcg.mod _))).trans (dcg.of_eq (by grind))))
theorem dlin_add {x y z : List Int} (hz : dred z) (h : dlin 1 1 x y z) : z = fDAdd x y := by
  conv => lhs; rw [← dpoly_self hz.1]
  refine dpoly_congr fun i hi => ?_
  refine dcg.eq ((h i hi).trans (dcg.symm ((dcg.mod _).trans (dcg.of_eq (by grind))))) (hz.2 i) (by omega)
theorem dfNtt_add (a b : List Int) : fDNtt (fDAdd a b) = fDAdd (fDNtt a) (fDNtt b) := by
  refine dlin_add (dred_fNtt _) ?_
  have := dnStage_lin (dadd_lin a b) 8 (Nat.le_refl _)
  rwa [← dfNtt_eq, ← dfNtt_eq, ← dfNtt_eq] at this
theorem dfInv_add (a b : List Int) : fDInv (fDAdd a b) = fDAdd (fDInv a) (fDInv b) := by
  refine dlin_add (dred_fInv _) ?_
  intro i hi
  have h := diStage_lin (dadd_lin a b) 8 (Nat.le_refl _) i hi
  rw [fDInv, dpoly_getD hi, fDInv, dpoly_getD hi, fDInv, dpoly_getD hi]
  refine (dcg.mod _).trans ((h.mul (dcg.refl 8347681)).trans (dcg.symm ((((dcg.refl 1).mul (dcg.mod _)).add ((dcg.refl 1).mul (dcg.mod _))).trans (dcg.of_eq (by grind)))))

def dsum : Nat → (Nat → Int) → Int
  | 0, _ => 0
  | n + 1, f => dsum n f + f n
theorem dsum_congr {n : Nat} {f g : Nat → Int} (h : ∀ i, i < n → f i = g i) : dsum n f = dsum n g := by
  induction n with
  | zero => rfl
  | succ n ih => rw [dsum, dsum, ih fun i hi => h i (by omega), h n (by omega)]
theorem dsum_cg {n : Nat} {f g : Nat → Int} (h : ∀ i, i < n → dcg (f i) (g i)) : dcg (dsum n f) (dsum n g) := by
  induction n with
  | zero => exact dcg.refl _
  | succ n ih => exact (ih fun i hi => h i (by omega)).add (h n (by omega))
theorem dsum_add (n : Nat) (f g : Nat → Int) : dsum n (fun i => f i + g i) = dsum n f + dsum n g := by
  induction n with
  | zero => rfl
  | succ n ih => rw [dsum, dsum, dsum, ih]; omega
theorem dsum_mul (n : Nat) (c : Int) (f : Nat → Int) : dsum n (fun i => c * f i) = c * dsum n f := by
  induction n with
  | zero => simp [dsum]
  | succ n ih => rw [dsum, dsum, ih]; grind
theorem dsum_mul_right (n : Nat) (c : Int) (f : Nat → Int) : dsum n (fun i => f i * c) = dsum n f * c := by
  induction n with
  | zero => simp [dsum]
  | succ n ih => rw [dsum, dsum, ih]; grind
theorem dsum_zero (n : Nat) : dsum n (fun _ => 0) = 0 := by
  induction n with
  | zero => rfl
  | succ n ih => rw [dsum, ih]; rfl
theorem dsum_swap (n m : Nat) (f : Nat → Nat → Int) : dsum n (fun i => dsum m (f i)) = dsum m (fun j => dsum n fun i => f i j) := by
  induction n with
  | zero => simp [dsum, dsum_zero]
  | succ n ih => rw [dsum, ih, ← dsum_add]; rfl
/-- Pairs of terms. -/
theorem dsum_two (n : Nat) (f : Nat → Int) : dsum (2 * n) f = dsum n fun i => f (2 * i) + f (2 * i + 1) := by
  induction n with
  | zero => rfl
  | succ n ih => rw [show 2 * (n + 1) = 2 * n + 1 + 1 by omega, dsum, dsum, ih, dsum]; omega
theorem dsum_split (n m : Nat) (f : Nat → Int) : dsum (n + m) f = dsum n f + dsum m fun i => f (n + i) := by
  induction m with
  | zero => simp [dsum]
  | succ m ih => rw [← Nat.add_assoc, dsum, ih, dsum]; omega
/-- One term alone. -/
theorem dsum_one {n k : Nat} (hk : k < n) (f : Nat → Int) : dsum n (fun i => if i = k then f i else 0) = f k := by
  induction n with
  | zero => omega
  | succ n ih =>
    rw [dsum]
    by_cases h : n = k
    · subst h
      rw [if_pos rfl, dsum_congr (g := fun _ => 0) (fun i hi => if_neg (by omega)), dsum_zero]; omega
    · rw [ih (by omega), if_neg h]; omega

/-- The block's number: block b of 2^t. -/
def dcOf : Nat → Nat → Int
  | 0, _ => -1
  | t + 1, b => if b % 2 = 0 then dzeta (2 ^ t + b / 2) else - dzeta (2 ^ t + b / 2)
theorem dcOf_sq_all : (List.range 8).all (fun t => (List.range (2 ^ t)).all fun b => (dzeta (2 ^ t + b) * dzeta (2 ^ t + b) - dcOf t b) % 8380417 == 0) = true := by decide +kernel
theorem dcOf_sq {t b : Nat} (ht : t < 8) (hb : b < 2 ^ t) : dcg (dcOf t b) (dzeta (2 ^ t + b) * dzeta (2 ^ t + b)) := by
  have h1 := List.all_eq_true.1 dcOf_sq_all t (List.mem_range.2 ht)
  have h3 := eq_of_beq (List.all_eq_true.1 h1 b (List.mem_range.2 hb))
  exact ⟨-((dzeta (2 ^ t + b) * dzeta (2 ^ t + b) - dcOf t b) / 8380417), by omega⟩
theorem dcOf_root_all : (List.range 256).all (fun i => (dcOf 8 i - droot i) % 8380417 == 0) = true := by decide +kernel
theorem dcOf_root {i : Nat} (hi : i < 256) : dcg (dcOf 8 i) (droot i) := by
  have h3 := eq_of_beq (List.all_eq_true.1 dcOf_root_all i (List.mem_range.2 hi))
  exact ⟨(dcOf 8 i - droot i) / 8380417, by omega⟩
theorem dcg.pow {x y : Int} (h : dcg x y) (n : Nat) : dcg (x ^ n) (y ^ n) := by
  induction n with
  | zero => rw [Int.pow_zero, Int.pow_zero]; exact dcg.refl _
  | succ n ih => rw [Int.pow_succ, Int.pow_succ]; exact ih.mul h

/-- Remainder of the polynomial modulo X^L - c, at place r. -/
def dev (a : List Int) (n L r : Nat) (c : Int) : Int := dsum n fun j => a.getD (j * L + r) 0 * c ^ j
theorem dev_step (a : List Int) (n s r : Nat) (z : Int) : dev a (2 * n) s r z = dev a n (2 * s) r (z * z) + z * dev a n (2 * s) (r + s) (z * z) := by
  unfold dev
  rw [dsum_two, ← dsum_mul, ← dsum_add]
  refine dsum_congr fun i _ => ?_
  rw [show 2 * i * s + r = i * (2 * s) + r by grind, show (2 * i + 1) * s + r = i * (2 * s) + (r + s) by grind]
  rw [Int.pow_succ, Int.pow_mul, show z ^ 2 = z * z by rw [Int.pow_succ, Int.pow_succ, Int.pow_zero, Int.one_mul]]
  grind
theorem dev_cg {a : List Int} {n L r : Nat} {c d : Int} (h : dcg c d) : dcg (dev a n L r c) (dev a n L r d) := dsum_cg fun j _ => (dcg.refl _).mul (h.pow j)

theorem dstage_ev (a : List Int) : ∀ t, t ≤ 8 → ∀ b r, b < 2 ^ t → r < 256 / 2 ^ t → dcg ((dnStage a t).getD (256 / 2 ^ t * b + r) 0) (dev (fDRed a) (2 ^ t) (256 / 2 ^ t) r (dcOf t b))
  | 0, _, b, r, hb, _ => by
    have : b = 0 := by simpa using hb
    subst this
    simp only [dnStage, Nat.pow_zero, dev, dsum, Int.pow_zero]
    exact dcg.of_eq (by simp)
  | t + 1, ht, b, r, hb, hr => by
    obtain ⟨f1, f2, _⟩ := dnstage_facts t (by omega)
    have e1 : 256 / 2 ^ (t + 1) = 128 / 2 ^ t := (by decide : ∀ t, t < 8 → 256 / 2 ^ (t + 1) = 128 / 2 ^ t) t (by omega)
    have e2 : 256 / 2 ^ t = 2 * (128 / 2 ^ t) := (by decide : ∀ t, t < 8 → 256 / 2 ^ t = 2 * (128 / 2 ^ t)) t (by omega)
    rw [e1] at hr ⊢
    have ih := dstage_ev a t (by omega) (b / 2)
    rw [e2] at ih
    have hb2 : b / 2 < 2 ^ t := by rw [Nat.pow_succ] at hb; omega
    have i1 := ih r hb2 (by omega)
    have i2 := ih (r + 128 / 2 ^ t) hb2 (by omega)
    have hsq := dcOf_sq (by omega) hb2
    have p2 : 2 ^ (t + 1) = 2 * 2 ^ t := by rw [Nat.pow_succ, Nat.mul_comm]
    rw [dnStage, p2]
    generalize hS : 128 / 2 ^ t = s at *
    rw [← Nat.add_assoc] at i2
    rcases Nat.mod_two_eq_zero_or_one b with hm | hm
    · have hc : dcOf (t + 1) b = dzeta (2 ^ t + b / 2) := by rw [dcOf, if_pos hm]
      have hidx : s * b + r = 2 * s * (b / 2) + r := by
        have : b = 2 * (b / 2) := by omega
        conv => lhs; rw [this]
        grind
      rw [hidx, hc, dev_step]
      refine (dnl_lo f1 f2 hb2 hr _).trans ((i1.trans (dev_cg hsq)).add ((dcg.refl _).mul (i2.trans (dev_cg hsq))))
    · have hc : dcOf (t + 1) b = - dzeta (2 ^ t + b / 2) := by rw [dcOf, if_neg (by omega)]
      have hidx : s * b + r = 2 * s * (b / 2) + r + s := by
        have : b = 2 * (b / 2) + 1 := by omega
        conv => lhs; rw [this]
        grind
      have hneg : (- dzeta (2 ^ t + b / 2)) * (- dzeta (2 ^ t + b / 2)) = dzeta (2 ^ t + b / 2) * dzeta (2 ^ t + b / 2) := by grind
      rw [hidx, hc, dev_step, hneg]
      refine (dnl_hi f1 f2 hb2 hr _).trans (((i1.trans (dev_cg hsq)).sub ((dcg.refl _).mul (i2.trans (dev_cg hsq)))).trans (dcg.of_eq ?_))
      grind


end Go.Ax.TryP
/-! ### The product modulo 8380417, as the document reckons it -/
namespace Go.Ax.TryP
def dE (a : List Int) (p : Int) : Int := dsum 256 fun k => (fDRed a).getD k 0 * p ^ k
theorem dntt_ev (a : List Int) {i : Nat} (hi : i < 256) : dcg ((fDNtt a).getD i 0) (dE a (droot i)) := by
  have h := (dstage_ev a 8 (Nat.le_refl _) i 0 hi (by decide)).trans (dev_cg (dcOf_root hi))
  rw [show 256 / 2 ^ 8 * i + 0 = i by omega] at h
  refine h.trans (dcg.of_eq (dsum_congr fun j _ => ?_))
  rw [show j * (256 / 2 ^ 8) + 0 = j by omega]
theorem droot_pow_all : (List.range 256).all (fun i => (droot i ^ 256 + 1) % 8380417 == 0) = true := by decide +kernel
theorem droot_pow {i : Nat} (hi : i < 256) : dcg (droot i ^ 256) (-1) := by
  have h3 := eq_of_beq (List.all_eq_true.1 droot_pow_all i (List.mem_range.2 hi))
  exact ⟨(droot i ^ 256 + 1) / 8380417, by omega⟩

def dcv (a b : List Int) (i n : Nat) : Int := dsum i fun u => if u ≤ n ∧ n < u + 256 then (fDRed a).getD u 0 * (fDRed b).getD (n - u) 0 else 0
theorem dcv_succ (a b : List Int) (i n : Nat) : dcv a b (i + 1) n = if i ≤ n ∧ n < i + 256 then dcv a b i n + (fDRed a).getD i 0 * (fDRed b).getD (n - i) 0 else dcv a b i n := by
  unfold dcv
  rw [dsum]
  split <;> omega
def fDMulR (a b : List Int) : List Int := dpoly fun j => (dcv a b 256 j - dcv a b 256 (j + 256)) % 8380417
theorem dshift_sum {v : Nat} (hv : v ≤ 256) (g : Nat → Int) (p : Int) : dsum 512 (fun j => if v ≤ j ∧ j < v + 256 then g (j - v) * p ^ j else 0) = p ^ v * dsum 256 fun k => g k * p ^ k := by
  rw [show 512 = v + (256 + (256 - v)) by omega, dsum_split, dsum_split, ← dsum_mul]
  rw [dsum_congr (n := v) (g := fun _ => 0) (fun i hi => if_neg (by omega)), dsum_zero]
  rw [dsum_congr (n := 256 - v) (g := fun _ => 0) (fun i hi => if_neg (by omega)), dsum_zero]
  rw [Int.zero_add, Int.add_zero]
  refine dsum_congr fun i hi => ?_
  rw [if_pos (by omega), show v + i - v = i by omega, Int.pow_add]
  grind
theorem dconv (a b : List Int) (p : Int) : dsum 512 (fun n => dcv a b 256 n * p ^ n) = dE a p * dE b p := by
  have h1 : dsum 512 (fun n => dcv a b 256 n * p ^ n) = dsum 256 fun u => (fDRed a).getD u 0 * dsum 512 fun n => if u ≤ n ∧ n < u + 256 then (fDRed b).getD (n - u) 0 * p ^ n else 0 := by
    rw [show (fun u => (fDRed a).getD u 0 * dsum 512 fun n => if u ≤ n ∧ n < u + 256 then (fDRed b).getD (n - u) 0 * p ^ n else 0) = fun u => dsum 512 fun n => (fDRed a).getD u 0 * (if u ≤ n ∧ n < u + 256 then (fDRed b).getD (n - u) 0 * p ^ n else 0) from funext fun u => (dsum_mul _ _ _).symm]
    rw [dsum_swap]
    refine dsum_congr fun j _ => ?_
    unfold dcv
    rw [← dsum_mul_right]
    refine dsum_congr fun u _ => ?_
    split <;> grind
  rw [h1]
  unfold dE
  rw [← dsum_mul_right]
  refine dsum_congr fun u hu => ?_
  rw [dshift_sum (v := u) (by omega) (fun k => (fDRed b).getD k 0) p]
  grind
theorem dE_mulR (a b : List Int) {i : Nat} (hi : i < 256) : dcg (dE (fDMulR a b) (droot i)) (dsum 512 fun n => dcv a b 256 n * droot i ^ n) := by
  rw [show 512 = 256 + 256 from rfl, dsum_split, ← dsum_add]
  have hr : dred (fDMulR a b) := dred_poly fun i _ => by omega
  unfold dE
  rw [dfRed_red hr]
  refine dsum_cg fun j hj => ?_
  rw [fDMulR, dpoly_getD hj, show 256 + j = j + 256 by omega, Int.pow_add, show j + 256 = 256 + j by omega]
  refine ((dcg.mod _).mul (dcg.refl _)).trans (dcg.symm (((dcg.refl _).add ((dcg.refl _).mul ((dcg.refl _).mul (droot_pow hi)))).trans (dcg.of_eq (by grind))))
theorem dlist_eq {a b : List Int} (ha : dred a) (hb : dred b) (h : ∀ i, i < 256 → dcg (a.getD i 0) (b.getD i 0)) : a = b := by
  rw [← dpoly_self ha.1, ← dpoly_self hb.1]
  exact dpoly_congr fun j hj => dcg.eq (h j hj) (ha.2 j) (hb.2 j)
theorem dmul_at {i : Nat} (hi : i < 256) (a b : List Int) : dcg ((fDMulN a b).getD i 0) (a.getD i 0 * b.getD i 0) := by rw [fDMulN, dpoly_getD hi]; exact dcg.mod _
theorem fDMulR_eq (a b : List Int) : fDMulR a b = fDMul a b := by
  have hr : dred (fDMulR a b) := dred_poly fun i _ => by omega
  have key : fDNtt (fDMulR a b) = fDMulN (fDNtt a) (fDNtt b) := by
    refine dlist_eq (dred_fNtt _) (dred_fMulN _ _) fun i hi => ?_
    refine ((dntt_ev _ hi).trans ((dE_mulR a b hi).trans (dcg.of_eq (dconv a b _)))).trans (dcg.symm ((dmul_at hi _ _).trans ?_))
    exact (dntt_ev a hi).mul (dntt_ev b hi)
  rw [fDMul, ← key, dfInv_fNtt, dfRed_red hr]

/-! #### The laws -/
theorem dadd_at {i : Nat} (hi : i < 256) (a b : List Int) : dcg ((fDAdd a b).getD i 0) (a.getD i 0 + b.getD i 0) := by rw [fDAdd, dpoly_getD hi]; exact dcg.mod _
theorem dsub_at {i : Nat} (hi : i < 256) (a b : List Int) : dcg ((fDSub a b).getD i 0) (a.getD i 0 - b.getD i 0) := by rw [fDSub, dpoly_getD hi]; exact dcg.mod _
theorem dred_at {i : Nat} (hi : i < 256) (a : List Int) : dcg ((fDRed a).getD i 0) (a.getD i 0) := by rw [fDRed, dpoly_getD hi]; exact dcg.mod _
theorem fDNtt_mul (a b : List Int) : fDNtt (fDMul a b) = fDMulN (fDNtt a) (fDNtt b) := by
  rw [fDMul, dfNtt_fInv, dfRed_red (dred_fMulN _ _)]
theorem fDMulN_comm (a b : List Int) : fDMulN a b = fDMulN b a := dpoly_congr fun i _ => by rw [Int.mul_comm]
theorem fDMul_comm (a b : List Int) : fDMul a b = fDMul b a := by rw [fDMul, fDMulN_comm, fDMul]
theorem fDSub_fAdd (a b : List Int) : fDSub (fDAdd a b) b = fDRed a := by
  refine dlist_eq (dred_fSub _ _) (dred_fRed _) fun i hi => ?_
  refine (dsub_at hi _ _).trans (((dadd_at hi a b).sub (dcg.refl _)).trans ((dcg.of_eq (by omega)).trans (dred_at hi a).symm))
theorem fDMul_zero (b : List Int) : fDMul (List.replicate 256 0) b = List.replicate 256 0 := by
  rw [← fDMulR_eq]
  have hz : ∀ n i, dcv (List.replicate 256 0) b i n = 0 := by
    intro n i
    induction i with
    | zero => rfl
    | succ i ih =>
      have : (fDRed (List.replicate 256 0)).getD i 0 = 0 := by
        by_cases hi : i < 256
        · rw [fDRed, dpoly_getD hi, getD_replicate]; rfl
        · exact getD_out (by have := (dred_fRed (List.replicate 256 0)).1; omega)
      rw [dcv_succ, ih, this]
      split <;> omega
  have : fDMulR (List.replicate 256 0) b = dpoly fun _ => 0 := dpoly_congr fun i _ => by rw [hz, hz]; rfl
  rw [this, dpoly, List.map_const', List.length_range]

end Go.Ax.TryP
/-! ### The transform modulo 8380417, and products: the walks -/
namespace Go.Ax.TryP
theorem rev8_table : ∀ n, n < 256 → bt p_bits_Reverse8_s0 n = (rev8 n : Int) ∧ rev8 n < 256 := by decide +kernel
theorem q_bits_Reverse8 : ∀ x r, g_bits_Reverse8 x = some r → ∃ N, p_bits_Reverse8 N x = some r := by
  refine Spec_of (ks := p_bits_Reverse8_ks) (rs := p_bits_Reverse8_rs) fun x hw _ => ⟨0, ?_⟩
  obtain ⟨(n : Int), u⟩ := x
  simp only [wfAll, Kd.wf, okInt_u8] at hw
  have hs : p_bits_Reverse8_s0.size = 256 := by decide +kernel
  have ht := (rev8_table n.toNat (by omega)).1
  unfold p_bits_Reverse8
  rw [hs]
  simp (disch := omega) only [if_pos]
  rw [ht]
theorem at_rev8 {n : Int} (h : 0 ≤ n ∧ n ≤ 255) : g_bits_Reverse8 (n, ()) = some (rev8 n.toNat : Int) :=
  Spec_at (ks := p_bits_Reverse8_ks) (rs := p_bits_Reverse8_rs) (by simp only [wfAll, Kd.wf, okInt_u8]; exact ⟨h, trivial⟩) trivial

theorem i32_mul {a b : Int} (h : -2147483648 ≤ a ∧ a ≤ 2147483647) (h' : -2147483648 ≤ b ∧ b ≤ 2147483647) : -4611686018427387904 ≤ a * b ∧ a * b ≤ 4611686018427387904 := by
  have h1 : a.natAbs * b.natAbs ≤ 2147483648 * 2147483648 := Nat.mul_le_mul (by omega) (by omega)
  rw [← Int.natAbs_mul] at h1
  omega
theorem q_dring_times : ∀ x r, g_dring_times x = some r → ∃ N, p_dring_times N x = some r := by
  refine Spec_of (ks := p_dring_times_ks) (rs := p_dring_times_rs) fun x hw _ => ⟨0, ?_⟩
  obtain ⟨(a : Int), (b : Int), u⟩ := x
  have ha : -2147483648 ≤ a ∧ a ≤ 2147483647 := okInt_i32.1 hw.1
  have hb : -2147483648 ≤ b ∧ b ≤ 2147483647 := okInt_i32.1 hw.2.1
  have hm := i32_mul ha hb
  unfold p_dring_times
  dsimp only
  rw [wrap_i64 (x := a) (by omega) (by omega), wrap_i64 (x := b) (by omega) (by omega), wrap_i64 (by omega) (by omega), at_below (by omega) (by omega)]
  rfl
theorem at_times {a b : Int} (h : -2147483648 ≤ a ∧ a ≤ 2147483647) (h' : -2147483648 ≤ b ∧ b ≤ 2147483647) : g_dring_times (a, b, ()) = some (a * b % 8380417) :=
  Spec_at (ks := p_dring_times_ks) (rs := p_dring_times_rs) (x := (a, b, ())) ⟨okInt_i32.2 h, okInt_i32.2 h', trivial⟩ trivial

def dh (j : Nat) : Int := 1753 ^ j % 8380417
theorem dh_bound (j : Nat) : 0 ≤ dh j ∧ dh j ≤ 8380416 := by unfold dh; omega
theorem dzeta_bound (j : Nat) : 0 ≤ dzeta j ∧ dzeta j ≤ 8380416 := by unfold dzeta; omega
theorem dh_succ (j : Nat) : dh j * 1753 % 8380417 = dh (j + 1) := by
  unfold dh
  rw [Int.pow_succ]
  generalize (1753 : Int) ^ j = m
  omega
theorem q_dring_powers : ∀ x r, g_dring_powers x = some r → ∃ N, p_dring_powers N x = some r := by
  refine Spec_of (ks := p_dring_powers_ks) (rs := p_dring_powers_rs) fun x hw _ => ⟨300, ?_⟩
  unfold p_dring_powers
  have hZ : (List.replicate 256 (0 : Int)).length = 256 := List.length_replicate ..
  have e0 : (List.replicate 256 (0 : Int)).set 0 1 = part dh 1 (List.replicate 256 0) := by
    have h := part_set (h := dh) (i := 0) (a := List.replicate 256 0) (by omega)
    rw [part_zero] at h
    exact h
  generalize hz : List.replicate 256 (0 : Int) = Z at hZ e0 ⊢
  refine (iter_from (F := p_dring_powers_l4_F 300) (s := fun i => (((i + 1 : Nat) : Int), Z, part dh (i + 1) Z, Z, ())) (y := (Z, (List.range 256).map dh, Z, ())) 255 ?_ ?_ ?_ 300 (by omega)).trans ?_
  · rw [e0]; rfl
  · intro i hi kn
    have hb := dh_bound i
    have hg : (part dh (i + 1) Z).getD i 0 = dh i := part_getD_lt (by omega)
    have e1 : ((i + 1 : Nat) : Int) - 1 = (i : Int) := by omega
    unfold p_dring_powers_l4_F
    dsimp only
    rw [wrap_i64 (by omega) (by omega), e1, if_pos (by omega), if_pos (by omega), if_pos (by omega), Int.toNat_natCast, if_pos (by omega), hg, at_times (by omega) (by omega), dh_succ]
    simp only [Option.bind_some]
    rw [if_pos (by omega), if_pos (by omega), Int.toNat_natCast, if_pos (by omega), part_set' (h := dh) (i := i + 1) (a := Z) (by omega) rfl, wrap_i64 (by omega) (by omega)]
    rfl
  · intro kn
    unfold p_dring_powers_l4_F
    dsimp only
    rw [if_neg (by omega), part_all hZ]
  dsimp only
  refine (iter_run (F := p_dring_powers_l8_F 300) (s := fun i => ((i : Int), Z, (List.range 256).map dh, part dzeta i Z, ())) (y := (Z, (List.range 256).map dzeta, ())) 256 ?_ ?_ 300 (by omega)).trans ?_
  · intro i hi kn
    have hr := (rev8_table i hi).2
    have hg : ((List.range 256).map dh).getD (rev8 i) 0 = dh (rev8 i) := map_range_getD hr
    unfold p_dring_powers_l8_F
    dsimp only
    rw [if_pos (by omega), wrap_u8 (by omega) (by omega), at_rev8 (by omega), Int.toNat_natCast]
    simp only [Option.bind_some]
    rw [if_pos (by omega), if_pos (by omega), Int.toNat_natCast, if_pos hr, if_pos (by omega), if_pos (by omega), if_pos (by omega), hg, wrap_i64 (by omega) (by omega),
      part_set' (h := dzeta) (i := i) (a := Z) (z := dh (rev8 i)) (by omega) rfl, Int.natCast_add]
    rfl
  · intro kn
    unfold p_dring_powers_l8_F
    dsimp only
    rw [if_neg (by omega), part_all hZ]
  · rfl
theorem at_powers : g_dring_powers () = some ((List.range 256).map dzeta) := Spec_at (ks := p_dring_powers_ks) (rs := p_dring_powers_rs) trivial trivial

def dDone (s at' r j : Nat) : Prop := j < at' ∨ (at' ≤ j ∧ j < at' + r) ∨ (at' + s ≤ j ∧ j < at' + s + r)
instance (s at' r j : Nat) : Decidable (dDone s at' r j) := by unfold dDone; infer_instance
def dMix (h : Nat → Int) (s : Nat) (a : List Int) (at' r j : Nat) : Int := if dDone s at' r j then h j else a.getD j 0
theorem dMix_len (h : Nat → Int) (s : Nat) (a : List Int) (at' r : Nat) : (dpoly (dMix h s a at' r)).length = 256 := dpoly_len _
theorem dMix_lo {h : Nat → Int} {s : Nat} {a : List Int} {c r : Nat} (hs : 0 < s) (hr : r < s) (hc : c + 2 * s ≤ 256) : (dpoly (dMix h s a c r)).getD (c + r) 0 = a.getD (c + r) 0 := by
  rw [dpoly_getD (by omega), dMix, if_neg (by unfold dDone; omega)]
theorem dMix_hi {h : Nat → Int} {s : Nat} {a : List Int} {c r : Nat} (hr : r < s) (hc : c + 2 * s ≤ 256) : (dpoly (dMix h s a c r)).getD (c + r + s) 0 = a.getD (c + r + s) 0 := by
  rw [dpoly_getD (by omega), dMix, if_neg (by unfold dDone; omega)]
theorem dMix_step {h : Nat → Int} {s : Nat} {a : List Int} {c r : Nat} (hr : r < s) :
    ((dpoly (dMix h s a c r)).set (c + r) (h (c + r))).set (c + r + s) (h (c + r + s)) = dpoly (dMix h s a c (r + 1)) := by
  rw [dpoly_set (h' := fun j => if j = c + r then h j else dMix h s a c r j) (by simp) (fun i _ hi => by simp [hi])]
  rw [dpoly_set (h' := dMix h s a c (r + 1)) ?_ ?_]
  · unfold dMix; rw [if_pos (by unfold dDone; omega)]
  · intro i hi hne
    by_cases hh : i = c + r
    · rw [if_pos hh, hh]; unfold dMix; rw [if_pos (by unfold dDone; omega)]
    · rw [if_neg hh]; unfold dMix
      by_cases hd : dDone s c r i
      · rw [if_pos hd, if_pos (by unfold dDone at *; omega)]
      · rw [if_neg hd, if_neg (by unfold dDone at *; omega)]
theorem dMix_next {h : Nat → Int} {s : Nat} {a : List Int} {c : Nat} : dpoly (dMix h s a c s) = dpoly (dMix h s a (c + 2 * s) 0) := by
  refine dpoly_congr fun i hi => ?_
  unfold dMix
  by_cases hd : dDone s c s i
  · rw [if_pos hd, if_pos (by unfold dDone at *; omega)]
  · rw [if_neg hd, if_neg (by unfold dDone at *; omega)]
theorem dMix_zero {h : Nat → Int} {s : Nat} {a : List Int} (ha : a.length = 256) : dpoly (dMix h s a 0 0) = a := by
  refine (dpoly_congr fun i hi => ?_).trans (dpoly_self ha)
  unfold dMix
  rw [if_neg (by unfold dDone; omega)]
theorem dMix_all {h : Nat → Int} {s : Nat} {a : List Int} : dpoly (dMix h s a 256 0) = dpoly h := by
  refine dpoly_congr fun i hi => ?_
  unfold dMix
  rw [if_pos (by unfold dDone; omega)]
theorem dfit {s m b : Nat} (hm : s * m = 128) (hb : b < m) : 2 * s * b + 2 * s ≤ 256 := by
  have : s * (b + 1) ≤ s * m := Nat.mul_le_mul_left _ (by omega)
  rw [hm, Nat.mul_add] at this
  rw [Nat.mul_assoc]
  omega

theorem dntt_block {β : Type} {s m b : Nat} (hm : s * m = 128) (hs : 0 < s) (hs128 : s ≤ 128) (hb : b < m) (hm128 : m ≤ 128) {a : List Int} (ha : dred a) (res : List Int) (K : Int × Int × Int × List Int × List Int × List Int × Unit → Option β) :
    iter (p_dring_Ntt_l12_F 300) 300 (((m + b : Nat) : Int), (s : Int), ((2 * s * b : Nat) : Int), ((2 * s * b : Nat) : Int), dpoly (dMix (dnval s a) s a (2 * s * b) 0), res, (List.range 256).map dzeta, ()) K
      = K (((m + b : Nat) : Int), (s : Int), ((2 * s * b : Nat) : Int), dpoly (dMix (dnval s a) s a (2 * s * (b + 1)) 0), res, (List.range 256).map dzeta, ()) := by
  have hat := dfit hm hb
  have hnext : 2 * s * (b + 1) = 2 * s * b + 2 * s := by rw [Nat.mul_add, Nat.mul_one]
  rw [hnext]
  have hk : m + b < 256 := by omega
  have hz := dzeta_bound (m + b)
  have hzg : ((List.range 256).map dzeta).getD (m + b) 0 = dzeta (m + b) := map_range_getD (by omega)
  have hlo := fun r (hr : r < s) => dnval_lo (b := b) hm hs hr a
  have hhi := fun r (hr : r < s) => dnval_hi (b := b) hm hs hr a
  generalize 2 * s * b = c at *
  generalize m + b = k at *
  refine iter_run (F := p_dring_Ntt_l12_F 300) (s := fun r => ((k : Int), (s : Int), (c : Int), ((c + r : Nat) : Int), dpoly (dMix (dnval s a) s a c r), res, (List.range 256).map dzeta, ())) (y := ((k : Int), (s : Int), (c : Int), dpoly (dMix (dnval s a) s a (c + 2 * s) 0), res, (List.range 256).map dzeta, ())) s ?_ ?_ 300 (by omega)
  · intro r hr kn
    have h1 := ha.2 (c + r)
    have h2 := ha.2 (c + r + s)
    have hl := hlo r hr
    have hh := hhi r hr
    have ec : ((c + r : Nat) : Int) + (s : Int) = ((c + r + s : Nat) : Int) := by omega
    have ht := at_times (a := dzeta k) (b := a.getD (c + r + s) 0) (by omega) (by omega)
    have hT : 0 ≤ dzeta k * a.getD (c + r + s) 0 % 8380417 ∧ dzeta k * a.getD (c + r + s) 0 % 8380417 ≤ 8380416 := by omega
    unfold p_dring_Ntt_l12_F
    simp (disch := omega) only [if_pos, wrap_i64, ec, Int.toNat_natCast, hzg, dMix_lo hs hr (a := a) (c := c), dMix_hi hr (a := a) (c := c), ht, Option.bind_some]
    simp (disch := omega) only [at_below, Option.bind_some]
    rw [← hl, ← hh, dMix_step hr]
    rfl
  · intro kn
    unfold p_dring_Ntt_l12_F
    simp (disch := omega) only [if_neg, wrap_i64]
    rw [dMix_next]

theorem dntt_layer {β : Type} {s m : Nat} (hm : s * m = 128) (hs : 0 < s) (hs128 : s ≤ 128) (hm0 : 0 < m) (hm128 : m ≤ 128) {a : List Int} (ha : dred a) (res : List Int) (K : Int × Int × List Int × List Int × List Int × Unit → Option β) :
    iter (p_dring_Ntt_l8_F 300) 300 (((m - 1 : Nat) : Int), (s : Int), 0, a, res, (List.range 256).map dzeta, ()) K = K (((2 * m - 1 : Nat) : Int), (s : Int), dnLayer s a, res, (List.range 256).map dzeta, ()) := by
  have hall : 2 * s * m = 256 := by rw [Nat.mul_assoc, hm]
  refine iter_from (F := p_dring_Ntt_l8_F 300) (s := fun b => (((m + b - 1 : Nat) : Int), (s : Int), ((2 * s * b : Nat) : Int), dpoly (dMix (dnval s a) s a (2 * s * b) 0), res, (List.range 256).map dzeta, ())) (y := (((2 * m - 1 : Nat) : Int), (s : Int), dnLayer s a, res, (List.range 256).map dzeta, ())) m ?_ ?_ ?_ 300 (by omega)
  · rw [Nat.mul_zero, dMix_zero ha.1]; rfl
  · intro b hb kn
    have hat := dfit hm hb
    have hnext : 2 * s * (b + 1) = 2 * s * b + 2 * s := by rw [Nat.mul_add, Nat.mul_one]
    unfold p_dring_Ntt_l8_F
    dsimp only
    rw [if_pos (by omega), wrap_i64 (by omega) (by omega), show ((m + b - 1 : Nat) : Int) + 1 = ((m + b : Nat) : Int) by omega]
    refine (dntt_block hm hs hs128 hb hm128 ha res _).trans ?_
    rw [hnext]
    simp (disch := omega) only [wrap_i64]
    rw [show m + (b + 1) - 1 = m + b by omega, show ((2 * s * b : Nat) : Int) + 2 * (s : Int) = ((2 * s * b + 2 * s : Nat) : Int) by omega]
  · intro kn
    unfold p_dring_Ntt_l8_F
    dsimp only
    rw [if_neg (by omega), hall, dMix_all, show m + m - 1 = 2 * m - 1 by omega]
    rfl
theorem dstage_facts : ∀ i, i < 8 → (128 / 2 ^ i) * 2 ^ i = 128 ∧ 0 < 128 / 2 ^ i ∧ 128 / 2 ^ i ≤ 128 ∧ 128 / 2 ^ i / 2 = 128 / 2 ^ (i + 1) ∧ 0 < 2 ^ i ∧ 2 ^ i ≤ 128 ∧ 2 * 2 ^ i = 2 ^ (i + 1) := by decide
theorem q_dring_Ntt : ∀ x r, g_dring_Ntt x = some r → ∃ N, p_dring_Ntt N x = some r := by
  refine Spec_of (ks := p_dring_Ntt_ks) (rs := p_dring_Ntt_rs) fun x hw _ => ⟨300, ?_⟩
  obtain ⟨(a : List Int), u⟩ := x
  have ha := wf_d1.1 hw
  unfold p_dring_Ntt
  dsimp only
  rw [at_Reduce ha, at_powers]
  simp only [Option.bind_some]
  generalize List.replicate 256 (0 : Int) = Z
  refine (iter_run (F := p_dring_Ntt_l5_F 300) (s := fun i => (((2 ^ i - 1 : Nat) : Int), ((128 / 2 ^ i : Nat) : Int), dnStage a i, Z, (List.range 256).map dzeta, ())) (y := (fDNtt a, Z, ())) 8 ?_ ?_ 300 (by omega)).trans ?_
  · intro i hi kn
    obtain ⟨f1, f2, f3, f4, f5, f6, f7⟩ := dstage_facts i hi
    unfold p_dring_Ntt_l5_F
    dsimp only
    rw [if_pos (by omega)]
    refine (dntt_layer f1 f2 f3 f5 f6 (dred_nStage a i) _ _).trans ?_
    simp (disch := omega) only [tdiv_pos, wrap_i64]
    have e1 : ((128 / 2 ^ i : Nat) : Int) / 2 = ((128 / 2 ^ (i + 1) : Nat) : Int) := by rw [← f4]; omega
    rw [e1, f7]
    rfl
  · intro kn
    unfold p_dring_Ntt_l5_F
    dsimp only
    rw [if_neg (by decide)]
    rfl
  · rfl
theorem at_DNtt {a : List Int} (h : i32s 256 a) : g_dring_Ntt (a, ()) = some (fDNtt a) := Spec_at (ks := p_dring_Ntt_ks) (rs := p_dring_Ntt_rs) (x := (a, ())) (wf_d1.2 h) trivial

theorem dinv_block {β : Type} {s m b : Nat} (hm : s * m = 128) (hs : 0 < s) (hs128 : s ≤ 128) (hb : b < m) (hm128 : m ≤ 128) {a : List Int} (ha : dred a) (res : List Int) (K : Int × Int × Int × List Int × List Int × List Int × Unit → Option β) :
    iter (p_dring_Inv_l12_F 300) 300 (((2 * m - 1 - b : Nat) : Int), (s : Int), ((2 * s * b : Nat) : Int), ((2 * s * b : Nat) : Int), dpoly (dMix (dival s a) s a (2 * s * b) 0), res, (List.range 256).map dzeta, ()) K
      = K (((2 * m - 1 - b : Nat) : Int), (s : Int), ((2 * s * b : Nat) : Int), dpoly (dMix (dival s a) s a (2 * s * (b + 1)) 0), res, (List.range 256).map dzeta, ()) := by
  have hat := dfit hm hb
  have hnext : 2 * s * (b + 1) = 2 * s * b + 2 * s := by rw [Nat.mul_add, Nat.mul_one]
  rw [hnext]
  have hk : 2 * m - 1 - b < 256 := by omega
  have hz := dzeta_bound (2 * m - 1 - b)
  have hzg : ((List.range 256).map dzeta).getD (2 * m - 1 - b) 0 = dzeta (2 * m - 1 - b) := map_range_getD hk
  have hlo := fun r (hr : r < s) => dival_lo (b := b) hs hr a
  have hhi := fun r (hr : r < s) => dival_hi (b := b) hm hs hr a
  generalize 2 * s * b = c at *
  generalize 2 * m - 1 - b = k at *
  refine iter_run (F := p_dring_Inv_l12_F 300) (s := fun r => ((k : Int), (s : Int), (c : Int), ((c + r : Nat) : Int), dpoly (dMix (dival s a) s a c r), res, (List.range 256).map dzeta, ())) (y := ((k : Int), (s : Int), (c : Int), dpoly (dMix (dival s a) s a (c + 2 * s) 0), res, (List.range 256).map dzeta, ())) s ?_ ?_ 300 (by omega)
  · intro r hr kn
    have h1 := ha.2 (c + r)
    have h2 := ha.2 (c + r + s)
    have hl := hlo r hr
    have hh := hhi r hr
    have ec : ((c + r : Nat) : Int) + (s : Int) = ((c + r + s : Nat) : Int) := by omega
    have ht := at_times (a := dzeta k) (b := a.getD (c + r + s) 0 - a.getD (c + r) 0) (by omega) (by omega)
    unfold p_dring_Inv_l12_F
    simp (disch := omega) only [if_pos, wrap_i64, wrap_i32, ec, Int.toNat_natCast, hzg, dMix_lo hs hr (a := a) (c := c), dMix_hi hr (a := a) (c := c), ht, at_below, Option.bind_some]
    rw [← hl, ← hh, dMix_step hr]
    rfl
  · intro kn
    unfold p_dring_Inv_l12_F
    simp (disch := omega) only [if_neg, wrap_i64]
    rw [dMix_next]
theorem dinv_layer {β : Type} {s m : Nat} (hm : s * m = 128) (hs : 0 < s) (hs128 : s ≤ 128) (hm0 : 0 < m) (hm128 : m ≤ 128) {a : List Int} (ha : dred a) (res : List Int) (K : Int × Int × List Int × List Int × List Int × Unit → Option β) :
    iter (p_dring_Inv_l8_F 300) 300 (((2 * m : Nat) : Int), (s : Int), 0, a, res, (List.range 256).map dzeta, ()) K = K (((m : Nat) : Int), (s : Int), diLayer s a, res, (List.range 256).map dzeta, ()) := by
  have hall : 2 * s * m = 256 := by rw [Nat.mul_assoc, hm]
  refine iter_from (F := p_dring_Inv_l8_F 300) (s := fun b => (((2 * m - b : Nat) : Int), (s : Int), ((2 * s * b : Nat) : Int), dpoly (dMix (dival s a) s a (2 * s * b) 0), res, (List.range 256).map dzeta, ())) (y := (((m : Nat) : Int), (s : Int), diLayer s a, res, (List.range 256).map dzeta, ())) m ?_ ?_ ?_ 300 (by omega)
  · rw [Nat.mul_zero, dMix_zero ha.1]; rfl
  · intro b hb kn
    have hat := dfit hm hb
    have hnext : 2 * s * (b + 1) = 2 * s * b + 2 * s := by rw [Nat.mul_add, Nat.mul_one]
    unfold p_dring_Inv_l8_F
    dsimp only
    rw [if_pos (by omega), wrap_i64 (by omega) (by omega), show ((2 * m - b : Nat) : Int) - 1 = ((2 * m - 1 - b : Nat) : Int) by omega]
    refine (dinv_block hm hs hs128 hb hm128 ha res _).trans ?_
    rw [hnext]
    simp (disch := omega) only [wrap_i64]
    rw [show 2 * m - 1 - b = 2 * m - (b + 1) by omega, show ((2 * s * b : Nat) : Int) + 2 * (s : Int) = ((2 * s * b + 2 * s : Nat) : Int) by omega]
  · intro kn
    unfold p_dring_Inv_l8_F
    dsimp only
    rw [if_neg (by omega), hall, dMix_all, show 2 * m - m = m by omega]
    rfl

theorem q_dring_Inv_1 : ∀ x r, g_dring_Inv_1 x = some r → ∃ N, p_dring_Inv_1 N x = some r := by
  refine Spec_of (ks := p_dring_Inv_1_ks) (rs := p_dring_Inv_1_rs) fun x hw _ => ⟨0, ?_⟩
  obtain ⟨(a : Int), u⟩ := x
  have ha : -2147483648 ≤ a ∧ a ≤ 2147483647 := okInt_i32.1 hw.1
  unfold p_dring_Inv_1
  dsimp only
  rw [at_times ha (by omega)]
  rfl
theorem at_Inv_1 {a : Int} (h : -2147483648 ≤ a) (h' : a ≤ 2147483647) : g_dring_Inv_1 (a, ()) = some (a * 8347681 % 8380417) :=
  Spec_at (ks := p_dring_Inv_1_ks) (rs := p_dring_Inv_1_rs) (x := (a, ())) ⟨okInt_i32.2 ⟨h, h'⟩, trivial⟩ trivial
theorem q_dring_each__dring_Inv_1 : ∀ x r, g_dring_each__dring_Inv_1 x = some r → ∃ N, p_dring_each__dring_Inv_1 N x = some r := by
  refine Spec_of (ks := p_dring_each__dring_Inv_1_ks) (rs := p_dring_each__dring_Inv_1_rs) fun x hw _ => ⟨257, ?_⟩
  obtain ⟨(a : List Int), u, u'⟩ := x
  have ha : i32s 256 a := wf_i32s.1 hw.1
  have hl := ha.1
  unfold p_dring_each__dring_Inv_1
  refine (iter_run (s := fun i => (a, (i : Int), part (fun i => a.getD i 0 * 8347681 % 8380417) i a, List.replicate 256 0, ())) (y := (dpoly fun i => a.getD i 0 * 8347681 % 8380417, List.replicate 256 0, ())) 256 ?_ ?_ 257 (by omega)).trans ?_
  · intro i hi kn
    have h0 := i32_at ha i
    unfold p_dring_each__dring_Inv_1_l2_F
    simp (disch := omega) only [if_pos, wrap_i64, Int.toNat_natCast, at_Inv_1, Option.bind_some]
    rw [part_set' (by omega) rfl, Int.natCast_add]
    rfl
  · intro kn
    unfold p_dring_each__dring_Inv_1_l2_F
    simp (disch := omega) only [if_neg]
    rw [part_all hl]
    rfl
  · rfl
theorem distage_facts : ∀ i, i < 8 → 2 ^ i * (128 / 2 ^ i) = 128 ∧ 0 < 2 ^ i ∧ 2 ^ i ≤ 128 ∧ 0 < 128 / 2 ^ i ∧ 128 / 2 ^ i ≤ 128 ∧ 2 * (128 / 2 ^ i) = 256 / 2 ^ i ∧ 128 / 2 ^ i = 256 / 2 ^ (i + 1) ∧ 2 * 2 ^ i = 2 ^ (i + 1) := by decide
theorem q_dring_Inv : ∀ x r, g_dring_Inv x = some r → ∃ N, p_dring_Inv N x = some r := by
  refine Spec_of (ks := p_dring_Inv_ks) (rs := p_dring_Inv_rs) fun x hw _ => ⟨300, ?_⟩
  obtain ⟨(a : List Int), u⟩ := x
  have ha := wf_d1.1 hw
  unfold p_dring_Inv
  dsimp only
  rw [at_Reduce ha, at_powers]
  simp only [Option.bind_some]
  generalize List.replicate 256 (0 : Int) = Z
  refine (iter_run (F := p_dring_Inv_l5_F 300) (s := fun i => (((256 / 2 ^ i : Nat) : Int), ((2 ^ i : Nat) : Int), diStage a i, Z, (List.range 256).map dzeta, ())) (y := (diStage a 8, Z, ())) 8 ?_ ?_ 300 (by omega)).trans ?_
  · intro i hi kn
    obtain ⟨f1, f2, f3, f4, f5, f6, f7, f8⟩ := distage_facts i hi
    unfold p_dring_Inv_l5_F
    dsimp only
    rw [if_pos (show ((2 ^ i : Nat) : Int) ≤ 128 from Int.ofNat_le.2 f3), ← f6]
    refine (dinv_layer f1 f2 f3 f4 f5 (dred_iStage a i) _ _).trans ?_
    simp (disch := omega) only [wrap_i64]
    rw [f7, show ((2 ^ i : Nat) : Int) * 2 = ((2 ^ (i + 1) : Nat) : Int) by omega]
    rfl
  · intro kn
    unfold p_dring_Inv_l5_F
    dsimp only
    rw [if_neg (by decide)]
  have hr := (dred_iStage a 8).i32
  have h : g_dring_each__dring_Inv_1 (diStage a 8, (), ()) = some (fDInv a) := Spec_at (ks := p_dring_each__dring_Inv_1_ks) (rs := p_dring_each__dring_Inv_1_rs) (x := (diStage a 8, (), ())) ⟨wf_i32s.2 hr, trivial, trivial⟩ trivial
  dsimp only
  rw [h]
  rfl
theorem at_DInv {a : List Int} (h : i32s 256 a) : g_dring_Inv (a, ()) = some (fDInv a) := Spec_at (ks := p_dring_Inv_ks) (rs := p_dring_Inv_rs) (x := (a, ())) (wf_d1.2 h) trivial

end Go.Ax.TryP
/-! Two polynomials as arguments. -/
namespace Go.Ax.TryP
theorem rep256 : (List.replicate 256 (0 : Int)).length = 256 := List.length_replicate ..
theorem wf_d2 {a b : List Int} : wfAll [.xs (.int .i32) 256, .xs (.int .i32) 256] (a, b, ()) ↔ i32s 256 a ∧ i32s 256 b := by simp [wfAll, wf_i32s]
end Go.Ax.TryP
/-! ### Products modulo 8380417, the transform sum by sum, the laws -/
namespace Go.Ax.TryP
theorem q_dring_MulNtt : ∀ x r, g_dring_MulNtt x = some r → ∃ N, p_dring_MulNtt N x = some r := by
  refine Spec_of (ks := p_dring_MulNtt_ks) (rs := p_dring_MulNtt_rs) fun x hw _ => ⟨300, ?_⟩
  obtain ⟨(a : List Int), (b : List Int), u⟩ := x
  obtain ⟨ha, hb⟩ := wf_d2.1 hw
  unfold p_dring_MulNtt
  generalize List.replicate 256 (0 : Int) = Z
  refine (iter_run (F := p_dring_MulNtt_l2_F 300) (s := fun i => ((i : Int), part (fun j => a.getD j 0 * b.getD j 0 % 8380417) i a, b, Z, ())) (y := (fDMulN a b, Z, ())) 256 ?_ ?_ 300 (by omega)).trans ?_
  · intro i hi kn
    have h1 := i32_at ha i
    have h2 := i32_at hb i
    have hp : (part (fun j => a.getD j 0 * b.getD j 0 % 8380417) i a).getD i 0 = a.getD i 0 := part_getD (Nat.le_refl i)
    unfold p_dring_MulNtt_l2_F
    dsimp only
    rw [if_pos (by omega), if_pos (by omega), if_pos (by omega), Int.toNat_natCast, if_pos hi, if_pos (by omega), if_pos (by omega), if_pos hi, hp, at_times h1 h2]
    simp only [Option.bind_some]
    rw [if_pos (by omega), if_pos (by omega), if_pos hi, part_set' (h := fun j => a.getD j 0 * b.getD j 0 % 8380417) (i := i) (a := a) (z := a.getD i 0 * b.getD i 0 % 8380417) (by rw [ha.1]; exact hi) rfl, wrap_i64 (by omega) (by omega), Int.natCast_add]
    rfl
  · intro kn
    unfold p_dring_MulNtt_l2_F
    dsimp only
    rw [if_neg (by omega), part_all ha.1]
    rfl
  · rfl
theorem at_MulNtt {a b : List Int} (h : i32s 256 a) (h' : i32s 256 b) : g_dring_MulNtt (a, b, ()) = some (fDMulN a b) := Spec_at (ks := p_dring_MulNtt_ks) (rs := p_dring_MulNtt_rs) (x := (a, b, ())) (wf_d2.2 ⟨h, h'⟩) trivial
theorem dmod_mul (x y : Int) : x % 8380417 * (y % 8380417) % 8380417 = x * y % 8380417 := (Int.mul_emod x y 8380417).symm
theorem dmul_bound {a b : Int} (ha : 0 ≤ a ∧ a ≤ 8380416) (hb : 0 ≤ b ∧ b ≤ 8380416) : 0 ≤ a * b ∧ a * b ≤ 70231372333056 :=
  ⟨Int.mul_nonneg ha.1 hb.1, Int.le_trans (Int.mul_le_mul ha.2 hb.2 hb.1 (by omega)) (by decide)⟩
theorem q_ref15_MulNtt : ∀ x r, g_ref15_MulNtt x = some r → ∃ N, p_ref15_MulNtt N x = some r := by
  refine Spec_of (ks := p_ref15_MulNtt_ks) (rs := p_ref15_MulNtt_rs) fun x hw _ => ⟨300, ?_⟩
  obtain ⟨(a : List Int), (b : List Int), u⟩ := x
  obtain ⟨ha, hb⟩ := wf_d2.1 hw
  unfold p_ref15_MulNtt
  dsimp only
  rw [at_rReduce ha, at_rReduce hb]
  simp only [Option.bind_some]
  generalize List.replicate 256 (0 : Int) = Z
  have hl : (fDRed a).length = 256 := (dred_fRed a).1
  refine (iter_run (F := p_ref15_MulNtt_l3_F 300) (s := fun i => ((i : Int), part (fun j => a.getD j 0 * b.getD j 0 % 8380417) i (fDRed a), fDRed b, Z, ())) (y := (fDMulN a b, Z, ())) 256 ?_ ?_ 300 (by omega)).trans ?_
  · intro i hi kn
    have h1 := fDRed_at a i
    have h2 := fDRed_at b i
    have hm := dmul_bound h1 h2
    have hp : (part (fun j => a.getD j 0 * b.getD j 0 % 8380417) i (fDRed a)).getD i 0 = (fDRed a).getD i 0 := part_getD (Nat.le_refl i)
    have e : (fDRed a).getD i 0 * (fDRed b).getD i 0 % 8380417 = a.getD i 0 * b.getD i 0 % 8380417 := by rw [fDRed_getD hi, fDRed_getD hi, dmod_mul]
    unfold p_ref15_MulNtt_l3_F
    dsimp only
    simp only [Int.toNat_natCast, hp]
    rw [wrap_i64 (x := (fDRed a).getD i 0) (by omega) (by omega)]
    rw [if_pos (by omega), if_pos (by omega), if_pos (by omega), if_pos hi, if_pos (by omega), if_pos (by omega), if_pos hi, if_pos (by omega), if_pos (by omega), if_pos hi,
      wrap_i64 (x := (fDRed b).getD i 0) (by omega) (by omega), wrap_i64 (x := (fDRed a).getD i 0 * (fDRed b).getD i 0) (by omega) (by omega), tmod_pos hm.1, e, wrap_i32 (by omega) (by omega),
      part_set' (h := fun j => a.getD j 0 * b.getD j 0 % 8380417) (i := i) (a := fDRed a) (z := a.getD i 0 * b.getD i 0 % 8380417) (by omega) rfl, wrap_i64 (by omega) (by omega), Int.natCast_add]
    rfl
  · intro kn
    unfold p_ref15_MulNtt_l3_F
    dsimp only
    rw [if_neg (by omega), part_all hl]
    rfl
  · rfl
theorem at_rMulNtt {a b : List Int} (h : i32s 256 a) (h' : i32s 256 b) : g_ref15_MulNtt (a, b, ()) = some (fDMulN a b) := Spec_at (ks := p_ref15_MulNtt_ks) (rs := p_ref15_MulNtt_rs) (x := (a, b, ())) (wf_d2.2 ⟨h, h'⟩) trivial
theorem at_Live : g_law15_live () = some true := Spec_at (ks := p_law15_live_ks) (rs := p_law15_live_rs) trivial trivial
end Go.Ax.TryP
/-! ### Powers, and the transform sum by sum -/
set_option linter.unusedVariables false
namespace Go.Ax.TryP
theorem pow_step (N : Nat) {β : Type} {K : Int × Unit → Option β} {kn : Int × Int × Int × Unit → Option β} {n : Nat} {x o : Int} (hn : n + 1 ≤ 1000) (hx : 0 ≤ x ∧ x ≤ 8380416) (ho : 0 ≤ o ∧ o ≤ 8380416) :
    p_ref15_power_l2_F N β (x, ((n + 1 : Nat) : Int), o, ()) kn K = kn (x * x % 8380417, (((n + 1) / 2 : Nat) : Int), o * x ^ ((n + 1) % 2) % 8380417, ()) := by
  have h1 := dmul_bound hx hx
  have h2 := dmul_bound ho hx
  have e0 : ((n + 1 : Nat) : Int) / 2 = (((n + 1) / 2 : Nat) : Int) := by omega
  unfold p_ref15_power_l2_F
  dsimp only
  rw [if_pos (by omega), tmod_pos (by omega : (0 : Int) ≤ ((n + 1 : Nat) : Int)), wrap_i64 (x := x * x) (by omega) (by omega), tmod_pos h1.1, tdiv_pos (by omega), e0, wrap_i64 (x := (((n + 1) / 2 : Nat) : Int)) (by omega) (by omega)]
  split
  · rw [wrap_i64 (x := o * x) (by omega) (by omega), tmod_pos h2.1, show (n + 1) % 2 = 1 by omega, Int.pow_succ, Int.pow_zero, Int.one_mul]
  · rw [show (n + 1) % 2 = 0 by omega, Int.pow_zero, Int.mul_one, Int.emod_eq_of_lt ho.1 (by omega)]
theorem dcg_of_mod {x y : Int} (h : dcg x y) : x % 8380417 = y % 8380417 := h.emod
theorem pow_loop (N : Nat) {K : Int × Unit → Option Int} : ∀ (f n : Nat) (x o : Int), n < 2 ^ f → n ≤ 1000 → (0 ≤ x ∧ x ≤ 8380416) → (0 ≤ o ∧ o ≤ 8380416) → ∀ k, f < k →
    iter (p_ref15_power_l2_F N) k (x, (n : Int), o, ()) K = K (o * x ^ n % 8380417, ())
  | f, 0, x, o, _, _, _, ho, k + 1, _ => by
    show p_ref15_power_l2_F N Int (x, ((0 : Nat) : Int), o, ()) _ K = _
    unfold p_ref15_power_l2_F
    rw [if_neg (by dsimp only; omega), Int.pow_zero, Int.mul_one, Int.emod_eq_of_lt ho.1 (by omega)]
  | 0, n + 1, _, _, h, _, _, _, _, _ => by omega
  | f + 1, n + 1, x, o, h, hn, hx, ho, k + 1, hk => by
    have h3 : (n + 1) / 2 < 2 ^ f := by rw [Nat.pow_succ] at h; omega
    have hp : x ^ (n + 1) = (x * x) ^ ((n + 1) / 2) * x ^ ((n + 1) % 2) := by
      rw [show x * x = x ^ 2 by rw [Int.pow_succ, Int.pow_succ, Int.pow_zero, Int.one_mul], ← Int.pow_mul, ← Int.pow_add, Nat.div_add_mod]
    refine (pow_step N hn hx ho).trans ((pow_loop N f _ _ _ h3 (by omega) (by omega) (by omega) k (by omega)).trans ?_)
    have e : o * x ^ ((n + 1) % 2) % 8380417 * (x * x % 8380417) ^ ((n + 1) / 2) % 8380417 = o * x ^ (n + 1) % 8380417 := by
      refine dcg_of_mod (((dcg.mod _).mul ((dcg.mod _).pow _)).trans (dcg.of_eq ?_))
      rw [hp]
      grind
    rw [e]
theorem q_ref15_power : ∀ x r, g_ref15_power x = some r → ∃ N, p_ref15_power N x = some r := by
  refine Spec_of (ks := p_ref15_power_ks) (rs := p_ref15_power_rs) fun x hw hq => ⟨20, ?_⟩
  obtain ⟨(b : Int), (e : Int), u⟩ := x
  have hq : (0 ≤ b ∧ b ≤ 8380416) ∧ 0 ≤ e ∧ e ≤ 1000 := hq
  obtain ⟨n, rfl⟩ := Int.eq_ofNat_of_zero_le hq.2.1
  unfold p_ref15_power
  dsimp only
  rw [pow_loop 20 10 n b 1 (by omega) (by omega) hq.1 (by omega) 20 (by omega), Int.one_mul]
  rfl
/-! The number turned round. -/
def rvT (n : Nat) : Nat → Nat
  | 0 => 0
  | i + 1 => 2 * rvT n i + n / 2 ^ i % 2
theorem rvT_b (n : Nat) : ∀ i, i ≤ 8 → rvT n i ≤ 255 := by
  have h : ∀ i, rvT n i < 2 ^ i := fun i => by
    induction i with
    | zero => exact Nat.one_pos
    | succ i ih => rw [rvT, Nat.pow_succ]; omega
  intro i hi
  have := h i
  have h2 : 2 ^ i ≤ 2 ^ 8 := Nat.pow_le_pow_right (by omega) hi
  omega
theorem rvT_8 (n : Nat) : rvT n 8 = rev8 n := rfl
/-! Horner's sum. -/
def horn (a : List Int) (w : Int) : Nat → Int
  | 0 => 0
  | i + 1 => (horn a w i * w + a.getD (255 - i) 0) % 8380417
theorem horn_b (a : List Int) (w : Int) : ∀ i, 0 ≤ horn a w i ∧ horn a w i ≤ 8380416
  | 0 => by rw [horn]; omega
  | i + 1 => by rw [horn]; omega
theorem horn_ev (a : List Int) (w : Int) : ∀ i, i ≤ 256 → dcg (horn a w i) (dsum i fun k => a.getD (256 - i + k) 0 * w ^ k)
  | 0, _ => dcg.refl _
  | i + 1, hi => by
    have ih := horn_ev a w i (by omega)
    rw [horn, Nat.add_comm i 1, dsum_split 1 i]
    refine (dcg.mod _).trans (((ih.mul (dcg.refl w)).add (dcg.refl _)).trans (dcg.of_eq ?_))
    rw [← dsum_mul_right, dsum, dsum, show 256 - (1 + i) + 0 = 255 - i by omega, Int.pow_zero, Int.mul_one]
    have : dsum i (fun k => a.getD (256 - i + k) 0 * w ^ k * w) = dsum i fun k => a.getD (256 - (1 + i) + (1 + k)) 0 * w ^ (1 + k) := dsum_congr fun k _ => by
      rw [show 256 - (1 + i) + (1 + k) = 256 - i + k by omega, Nat.add_comm 1 k, Int.pow_succ, Int.mul_assoc]
    rw [this]
    omega
theorem horn_ntt (a : List Int) {i : Nat} (hi : i < 256) : horn (fDRed a) (droot i) 256 = (fDNtt a).getD i 0 := by
  refine dcg.eq ?_ ?_ ?_
  · refine (horn_ev _ _ 256 (by omega)).trans ((dcg.of_eq (dsum_congr fun k _ => ?_)).trans (dntt_ev a hi).symm)
    rw [Nat.sub_self, Nat.zero_add]
  · have := horn_b (fDRed a) (droot i) 256; omega
  · have := (dred_fNtt a).2 i; omega
end Go.Ax.TryP
/-! ### The transform, sum by sum -/
set_option linter.unusedVariables false
namespace Go.Ax.TryP
theorem direct_rev {β : Type} {n : Nat} (hn : n < 256) (A B C : List Int) (K : Int × Int × Int × List Int × List Int × List Int × Unit → Option β) :
    iter (p_ref15_Direct_l8_F 300) 300 ((n : Int), (0 : Int), (n : Int), (n : Int), (0 : Int), A, B, C, ()) K = K ((n : Int), (rev8 n : Int), (n : Int), A, B, C, ()) := by
  refine iter_from (s := fun i => ((n : Int), ((rvT n i : Nat) : Int), ((n / 2 ^ i : Nat) : Int), (n : Int), (i : Int), A, B, C, ())) (y := ((n : Int), (rev8 n : Int), (n : Int), A, B, C, ())) 8 ?_ ?_ ?_ 300 (by omega)
  · rw [Nat.pow_zero, Nat.div_one]; rfl
  · intro i hi kn
    have hb := rvT_b n i (by omega)
    have hd : n / 2 ^ i ≤ n := Nat.div_le_self _ _
    have e1 : ((n / 2 ^ i : Nat) : Int) / 2 = ((n / 2 ^ (i + 1) : Nat) : Int) := by rw [Nat.pow_succ, ← Nat.div_div_eq_div_mul]; omega
    have e2 : 2 * ((rvT n i : Nat) : Int) + ((n / 2 ^ i : Nat) : Int) % 2 = ((rvT n (i + 1) : Nat) : Int) := by simp only [rvT]; omega
    unfold p_ref15_Direct_l8_F
    dsimp only
    generalize n / 2 ^ i = m at *
    rw [if_pos (by omega), wrap_i64 (x := 2 * ((rvT n i : Nat) : Int)) (by omega) (by omega), tmod_pos (by omega), wrap_i64 (x := 2 * ((rvT n i : Nat) : Int) + ((m : Nat) : Int) % 2) (by omega) (by omega), tdiv_pos (by omega), wrap_i64 (x := (m : Int) / 2) (by omega) (by omega), wrap_i64 (x := (i : Int) + 1) (by omega) (by omega), e1, e2]
    rfl
  · intro kn
    unfold p_ref15_Direct_l8_F
    dsimp only
    rw [if_neg (by omega), rvT_8]
theorem direct_sum {β : Type} {n : Int} {w : Int} (hw : 0 ≤ w ∧ w ≤ 8380416) {A : List Int} (hA : dred A) (B C : List Int) (K : Int × Int × Int × List Int × List Int × List Int × Unit → Option β) :
    iter (p_ref15_Direct_l14_F 300) 300 (n, w, (0 : Int), (255 : Int), n, A, B, C, ()) K = K (n, horn A w 256, n, A, B, C, ()) := by
  refine iter_from (s := fun i => (n, w, horn A w i, 255 - (i : Int), n, A, B, C, ())) (y := (n, horn A w 256, n, A, B, C, ())) 256 ?_ ?_ ?_ 300 (by omega)
  · rfl
  · intro i hi kn
    have hb := horn_b A w i
    have hm := dmul_bound hb hw
    have ha := hA.2 (255 - i)
    unfold p_ref15_Direct_l14_F
    dsimp only
    rw [show (255 - (i : Int)).toNat = 255 - i by omega, if_pos (by omega), if_pos (by omega), if_pos (by omega), if_pos (by omega), wrap_i64 (x := horn A w i * w) (by omega) (by omega), wrap_i64 (x := A.getD (255 - i) 0) (by omega) (by omega),
      wrap_i64 (x := horn A w i * w + A.getD (255 - i) 0) (by omega) (by omega), tmod_pos (by omega), wrap_i64 (x := 255 - (i : Int) - 1) (by omega) (by omega), show 255 - (i : Int) - 1 = 255 - ((i + 1 : Nat) : Int) by omega]
    rfl
  · intro kn
    unfold p_ref15_Direct_l14_F
    dsimp only
    rw [if_neg (by omega)]
theorem rev8_b : ∀ n, n < 256 → rev8 n < 256 := fun n hn => (rev8_table n hn).2
theorem q_ref15_Direct : ∀ x r, g_ref15_Direct x = some r → ∃ N, p_ref15_Direct N x = some r := by
  refine Spec_of (ks := p_ref15_Direct_ks) (rs := p_ref15_Direct_rs) fun x hw hq => ⟨300, ?_⟩
  obtain ⟨(a : List Int), u⟩ := x
  have ha : i32s 256 a := wf_d1.1 hw
  show p_ref15_Direct 300 (a, u) = some (fDNtt a)
  have hr : dred (fDRed a) := dred_fRed a
  have tl : (fDNtt a).length = 256 := (dred_fNtt a).1
  unfold p_ref15_Direct
  dsimp only
  rw [at_rReduce ha, Option.bind_some]
  refine (iter_from (F := p_ref15_Direct_l4_F 300) (s := fun i => ((i : Int), fDRed a, List.replicate 256 0, part (fun i => (fDNtt a).getD i 0) i (List.replicate 256 0), ())) (y := (List.replicate 256 0, fDNtt a, ())) 256 ?_ ?_ ?_ 300 (by omega)).trans ?_
  · rw [part_zero]; rfl
  · intro i hi kn
    have h1 := (dred_fNtt a).2 i
    have hb := rev8_b i hi
    unfold p_ref15_Direct_l4_F
    dsimp only
    rw [if_pos (by omega), direct_rev hi]
    dsimp only
    rw [wrap_i64 (x := 2 * (rev8 i : Int)) (by omega) (by omega), wrap_i64 (x := 2 * (rev8 i : Int) + 1) (by omega) (by omega), show 2 * (rev8 i : Int) + 1 = ((2 * rev8 i + 1 : Nat) : Int) by omega, at_powern (by omega), Option.bind_some,
      show (1753 : Int) ^ (2 * rev8 i + 1) % 8380417 = droot i from rfl, direct_sum (by unfold droot; omega) hr, horn_ntt a hi]
    dsimp only
    rw [if_pos (by omega), if_pos (by omega), Int.toNat_natCast, if_pos (by omega), wrap_i64 (by omega) (by omega), wrap_i32 (x := (fDNtt a).getD i 0) (by omega) (by omega),
      part_set' (by rw [List.length_replicate]; exact hi) rfl]
    rfl
  · intro kn
    unfold p_ref15_Direct_l4_F
    dsimp only
    rw [if_neg (by omega), part_all List.length_replicate, map_getD tl]
  · rfl
end Go.Ax.TryP
/-! ### The document's inverse, and the law -/
set_option linter.unusedVariables false
namespace Go.Ax.TryP
theorem q_ref15_Inv : ∀ x r, g_ref15_Inv x = some r → ∃ N, @p_ref15_Inv ⟨gjo 8⟩ N x = some r := by
  letI : JoinG := ⟨gjo 8⟩
  refine Spec_of (ks := [.xs (.int .i32) 256]) (rs := [.xs (.int .i32) 256]) fun x hw hq => ⟨300, ?_⟩
  obtain ⟨(a : List Int), u⟩ := x
  have ha : i32s 256 a := wf_i32s.1 hw.1
  show p_ref15_Inv 300 (a, u) = some (fDInv a)
  have rl : (fDRed a).length = 256 := dpoly_len _
  have tl : (fDInv a).length = 256 := dpoly_len _
  have tq : inQ (fDInv a) := fun z hz => by obtain ⟨i, _, rfl⟩ := List.mem_map.1 hz; omega
  unfold p_ref15_Inv
  dsimp only
  rw [at_rReduce ha, Option.bind_some, if_pos (by omega), if_pos rfl, if_pos (by omega)]
  refine (iter_from (F := p_ref15_Inv_l4_F 300) (s := fun i => ((i : Int), fDRed a, List.replicate 256 0, part (fun i => (fDRed a).getD i 0) i (List.replicate 256 0), ())) (y := (List.replicate 256 0, fDRed a, ())) 256 ?_ ?_ ?_ 300 (by omega)).trans ?_
  · rw [part_zero]; rfl
  · intro i hi kn
    have h1 := inQ_at (red_q a) i
    unfold p_ref15_Inv_l4_F
    dsimp only
    rw [if_pos (by omega), if_pos (by omega), if_pos (by omega), Int.toNat_natCast, if_pos (by omega), if_pos (by omega), if_pos (by omega), if_pos (by omega), wrap_i64 (x := (fDRed a).getD i 0) (by omega) (by omega), wrap_i64 (by omega) (by omega), part_set' (by rw [List.length_replicate]; exact hi) rfl]
    rfl
  · intro kn
    unfold p_ref15_Inv_l4_F
    dsimp only
    rw [if_neg (by omega), part_all List.length_replicate, map_getD rl]
  dsimp only
  have g1 : g_ref15_join (fDRed a, (256 : Int), ()) = some (fDInv a) := by
    rw [← join_inv]
    exact at_gjo (K := 8) (k := 8) (by omega) (by omega) rl (red_q a) (e := 256) (by omega)
  rw [g1, Option.bind_some, tl]
  refine (iter_from (F := p_ref15_Inv_l10_F 300) (s := fun i => (256, (256 : Int), (i : Int), List.replicate 256 0, part (fun i => (fDInv a).getD i 0) i (List.replicate 256 0), 256, fDInv a, ())) (y := (List.replicate 256 0, fDInv a, ())) 256 ?_ ?_ ?_ 300 (by omega)).trans ?_
  · rw [part_zero]; rfl
  · intro i hi kn
    have h1 := inQ_at tq i
    unfold p_ref15_Inv_l10_F
    dsimp only
    rw [if_pos (by omega), if_pos (by omega), if_pos (by omega), Int.toNat_natCast, if_pos (by omega), if_pos (by omega), if_pos (by omega), if_pos (by omega), wrap_i32 (x := (fDInv a).getD i 0) (by omega) (by omega), wrap_i64 (by omega) (by omega), part_set' (by rw [List.length_replicate]; exact hi) rfl]
    rfl
  · intro kn
    unfold p_ref15_Inv_l10_F
    dsimp only
    rw [if_neg (by omega), part_all List.length_replicate, map_getD tl]
  · rfl
theorem at_rDirect {a : List Int} (h : i32s 256 a) : g_ref15_Direct (a, ()) = some (fDNtt a) := Spec_at (ks := p_ref15_Direct_ks) (rs := p_ref15_Direct_rs) (x := (a, ())) (wf_d1.2 h) trivial
theorem at_rNtt {a : List Int} (h : i32s 256 a) : g_ref15_Ntt (a, ()) = some (fDNtt a) := Spec_at (ks := p_ref15_Ntt_ks) (rs := p_ref15_Ntt_rs) (x := (a, ())) (wf_d1.2 h) trivial
theorem at_rInv {a : List Int} (h : i32s 256 a) : g_ref15_Inv (a, ()) = some (fDInv a) := Spec_at (ks := p_ref15_Inv_ks) (rs := p_ref15_Inv_rs) (x := (a, ())) (wf_d1.2 h) trivial
theorem q_law15_DringNtts : ∀ x r, g_law15_DringNtts x = some r → ∃ N, p_law15_DringNtts N x = some r := by
  refine Spec_of (ks := p_law15_DringNtts_ks) (rs := p_law15_DringNtts_rs) fun x hw _ => ⟨0, ?_⟩
  obtain ⟨(a : List Int), (b : List Int), u⟩ := x
  obtain ⟨ha, hb⟩ := wf_d2.1 hw
  unfold p_law15_DringNtts
  simp only [at_Live, at_DNtt ha, at_rDirect ha, at_rNtt ha, at_DInv ha, at_rInv ha, at_MulNtt ha hb, at_rMulNtt ha hb, Option.bind_some, if_true, decide_true]
end Go.Ax.TryP
/-! Printed by program (wires.py): the functions keep their signatures. -/
namespace Go.Ax.TryP
theorem s_ref15_power : SigOk Go.Proofs.Try.prog 62 ⟨[.int .i64, .int .i64], [.int .i64], g_ref15_power⟩ := p_ref15_power_ok q_ref15_power
theorem s_ref15_mod : SigOk Go.Proofs.Try.prog 66 ⟨[.int .i64], [.int .i64], g_ref15_mod⟩ := p_ref15_mod_ok q_ref15_mod
theorem s_dring_below : SigOk Go.Proofs.Try.prog 59 ⟨[.int .i64], [.int .i32], g_dring_below⟩ := p_dring_below_ok q_dring_below
theorem s_dring_Reduce_1 : SigOk Go.Proofs.Try.prog 58 ⟨[.int .i32], [.int .i32], g_dring_Reduce_1⟩ := p_dring_Reduce_1_ok s_dring_below q_dring_Reduce_1
theorem s_dring_each__dring_Reduce_1 : SigOk Go.Proofs.Try.prog 57 ⟨[.xs (.int .i32) 256, .fnc 58], [.xs (.int .i32) 256], g_dring_each__dring_Reduce_1⟩ := p_dring_each__dring_Reduce_1_ok s_dring_Reduce_1 q_dring_each__dring_Reduce_1
theorem s_dring_Reduce : SigOk Go.Proofs.Try.prog 18 ⟨[.xs (.int .i32) 256], [.xs (.int .i32) 256], g_dring_Reduce⟩ := p_dring_Reduce_ok s_dring_each__dring_Reduce_1 q_dring_Reduce
theorem s_dring_near : SigOk Go.Proofs.Try.prog 55 ⟨[.int .i32, .int .i32], [.int .i32], g_dring_near⟩ := p_dring_near_ok q_dring_near
theorem s_dring_parts : SigOk Go.Proofs.Try.prog 56 ⟨[.int .i32], [.int .i32, .int .i32], g_dring_parts⟩ := p_dring_parts_ok s_dring_below s_dring_near q_dring_parts
theorem s_dring_Power2Round : SigOk Go.Proofs.Try.prog 13 ⟨[.xs (.int .i32) 256], [.xs (.int .i32) 256, .xs (.int .i32) 256], g_dring_Power2Round⟩ := p_dring_Power2Round_ok s_dring_Reduce s_dring_near q_dring_Power2Round
theorem s_dring_Decompose : SigOk Go.Proofs.Try.prog 15 ⟨[.xs (.int .i32) 256], [.xs (.int .i32) 256, .xs (.int .i32) 256], g_dring_Decompose⟩ := p_dring_Decompose_ok s_dring_parts q_dring_Decompose
theorem s_ref15_Reduce : SigOk Go.Proofs.Try.prog 40 ⟨[.xs (.int .i32) 256], [.xs (.int .i32) 256], g_ref15_Reduce⟩ := p_ref15_Reduce_ok s_ref15_mod q_ref15_Reduce
theorem s_law15_live : SigOk Go.Proofs.Try.prog 17 ⟨[], [.bool], g_law15_live⟩ := p_law15_live_ok s_dring_Decompose s_dring_Power2Round q_law15_live
theorem s_bits_Reverse8 : SigOk Go.Proofs.Try.prog 78 ⟨[.int .u8], [.int .u8], g_bits_Reverse8⟩ := p_bits_Reverse8_ok q_bits_Reverse8
theorem s_dring_times : SigOk Go.Proofs.Try.prog 61 ⟨[.int .i32, .int .i32], [.int .i32], g_dring_times⟩ := p_dring_times_ok s_dring_below q_dring_times
theorem s_dring_powers : SigOk Go.Proofs.Try.prog 60 ⟨[], [.xs (.int .i32) 256], g_dring_powers⟩ := p_dring_powers_ok s_dring_times s_bits_Reverse8 q_dring_powers
theorem s_dring_Ntt : SigOk Go.Proofs.Try.prog 31 ⟨[.xs (.int .i32) 256], [.xs (.int .i32) 256], g_dring_Ntt⟩ := p_dring_Ntt_ok s_dring_Reduce s_dring_powers s_dring_times s_dring_below q_dring_Ntt
theorem s_dring_Inv_1 : SigOk Go.Proofs.Try.prog 64 ⟨[.int .i32], [.int .i32], g_dring_Inv_1⟩ := p_dring_Inv_1_ok s_dring_times q_dring_Inv_1
theorem s_dring_each__dring_Inv_1 : SigOk Go.Proofs.Try.prog 57 ⟨[.xs (.int .i32) 256, .fnc 64], [.xs (.int .i32) 256], g_dring_each__dring_Inv_1⟩ := p_dring_each__dring_Inv_1_ok s_dring_Inv_1 q_dring_each__dring_Inv_1
theorem s_dring_Inv : SigOk Go.Proofs.Try.prog 34 ⟨[.xs (.int .i32) 256], [.xs (.int .i32) 256], g_dring_Inv⟩ := p_dring_Inv_ok s_dring_Reduce s_dring_powers s_dring_below s_dring_times s_dring_each__dring_Inv_1 q_dring_Inv
theorem s_dring_MulNtt : SigOk Go.Proofs.Try.prog 36 ⟨[.xs (.int .i32) 256, .xs (.int .i32) 256], [.xs (.int .i32) 256], g_dring_MulNtt⟩ := p_dring_MulNtt_ok s_dring_times q_dring_MulNtt
theorem s_ref15_MulNtt : SigOk Go.Proofs.Try.prog 37 ⟨[.xs (.int .i32) 256, .xs (.int .i32) 256], [.xs (.int .i32) 256], g_ref15_MulNtt⟩ := p_ref15_MulNtt_ok s_ref15_Reduce q_ref15_MulNtt
theorem s_ref15_Direct : SigOk Go.Proofs.Try.prog 32 ⟨[.xs (.int .i32) 256], [.xs (.int .i32) 256], g_ref15_Direct⟩ := p_ref15_Direct_ok s_ref15_Reduce s_ref15_power q_ref15_Direct
theorem s_ref15_Ntt : SigOk Go.Proofs.Try.prog 33 ⟨[.xs (.int .i32) 256], [.xs (.int .i32) 256], g_ref15_Ntt⟩ := @p_ref15_Ntt_ok ⟨gsp 8⟩ s_ref15_Reduce (s_split s_ref15_power s_ref15_mod 8 (Nat.le_refl _)) _ q_ref15_Ntt
theorem s_ref15_Inv : SigOk Go.Proofs.Try.prog 35 ⟨[.xs (.int .i32) 256], [.xs (.int .i32) 256], g_ref15_Inv⟩ := @p_ref15_Inv_ok ⟨gjo 8⟩ s_ref15_Reduce (s_join s_ref15_power s_ref15_mod 8 (Nat.le_refl _)) _ q_ref15_Inv
theorem s_law15_DringNtts : SigOk Go.Proofs.Try.prog 8 ⟨[.xs (.int .i32) 256, .xs (.int .i32) 256], [.bool], g_law15_DringNtts⟩ := p_law15_DringNtts_ok s_law15_live s_dring_Ntt s_ref15_Direct s_ref15_Ntt s_dring_Inv s_ref15_Inv s_dring_MulNtt s_ref15_MulNtt q_law15_DringNtts
end Go.Ax.TryP
