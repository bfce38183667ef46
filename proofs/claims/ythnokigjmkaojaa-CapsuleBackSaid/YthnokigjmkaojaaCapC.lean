/- A part of the proof: CapS3, CapP3, CapQ9, CapQ10, CapQ11, CapQ12, CapQ13, CapW3. -/
import Derived.Test.YthnokigjmkaojaaCapB
/-! ### Capsules read: what the functions answer -/
namespace Go.Ax.TryP
abbrev Rd := List Int × Bool × Unit
abbrev rdL : List FK := [.fs (.int .u8), .bool]
/-- So many bytes off the front; where there are not so many, it is over. -/
def tk (s : Rd) (n : Nat) : List Int × Rd := if s.2.1 = true ∨ s.1.length < n then (List.replicate (min n 8) 0, (s.1, true, ())) else (s.1.take n, (s.1.drop n, false, ()))
def nmS (s : Rd) (n : Nat) : Int × Rd := (numS (tk s n).1, (tk s n).2)
def txS (s : Rd) (n : Nat) : List Int × Rd := tk (nmS s n).2 (nmS s n).1.toNat
noncomputable def g_capsule_reader_take : Rd × Int × Unit → Option (List Int × Rd) := Spec (ks := [.io rdL, .int .i64]) (rs := [.sl (.int .u8), .cat rdL]) (fun x => 0 ≤ x.2.1 ∧ x.2.1 ≤ 100000 ∧ x.1.1.length ≤ 1000000) fun x => tk x.1 x.2.1.toNat
noncomputable def g_capsule_reader_number : Rd × Int × Unit → Option (Int × Rd) := Spec (ks := [.io rdL, .int .i64]) (rs := [.int .u64, .cat rdL]) (fun x => 1 ≤ x.2.1 ∧ x.2.1 ≤ 8 ∧ x.1.1.length ≤ 1000000) fun x => nmS x.1 x.2.1.toNat
noncomputable def g_capsule_reader_text : Rd × Int × Unit → Option (List Int × Rd) := Spec (ks := [.io rdL, .int .i64]) (rs := [.sl (.int .u8), .cat rdL]) (fun x => 1 ≤ x.2.1 ∧ x.2.1 ≤ 2 ∧ x.1.1.length ≤ 1000000) fun x => txS x.1 x.2.1.toNat
noncomputable def g_octet_BigOf : List Int × Unit → Option (Int × Int) := Spec (ks := [.sl (.int .u8)]) (rs := [.int .u64, .int .i64]) (fun x => 1 ≤ x.1.length ∧ x.1.length ≤ 8) fun x => (numS x.1, 0)
noncomputable def g_ref01_Number : List Int × Unit → Option Int := Spec (ks := [.sl (.int .u8)]) (rs := [.int .u64]) (fun x => x.1.length ≤ 8) fun x => numS x.1
def pc (b : List Int) (i n : Nat) : List Int := (b.drop i).take n
def gN (b : List Int) : Nat := (numS (pc b 26 2)).toNat
def gM (b : List Int) : Nat := (numS (pc b (28 + gN b + 1088) 2)).toNat
def gK (b : List Int) : Nat := 28 + gN b + 1088 + 2 + gM b + 3309
def gC (b : List Int) : Cp := (b.getD 0 0, b.getD 1 0, numS (pc b 2 4), numS (pc b 6 4), numS (pc b 10 8), numS (pc b 18 8), pc b 28 (gN b), pc b (28 + gN b) 1088, pc b (28 + gN b + 1088 + 2) (gM b), pc b (28 + gN b + 1088 + 2 + gM b) 3309, ())
def zC : Cp := (0, 0, 0, 0, 0, 0, [], [], [], [], ())
def getS (b : List Int) : Cp × Int := if gK b = b.length ∧ mayS (gC b) = true then (gC b, 0) else (zC, 230)
noncomputable def g_capsule_Get : List Int × Unit → Option (Cp × Int) := Spec (ks := [.fsl (.int .u8)]) (rs := [.cat cpL, .int .i64]) (fun x => x.1.length ≤ 1000000) fun x => getS x.1
noncomputable def g_ref23_Get : List Int × Unit → Option (Cp × Int) := Spec (ks := [.fsl (.int .u8)]) (rs := [.cat cpL, .int .i64]) (fun x => x.1.length ≤ 1000000) fun x => getS x.1
noncomputable def g_law23_CapsuleGets : List Int × Unit → Option Bool := Spec (ks := [.sl (.int .u8)]) (rs := [.bool]) (fun _ => True) fun _ => true
noncomputable def g_law23_CapsuleBack : Cp × List Int × Unit → Option Bool := Spec (ks := [.cat cpL, .sl (.int .u8)]) (rs := [.bool]) (fun _ => True) fun _ => true
end Go.Ax.TryP
/-! Printed by program (gen.py). -/
set_option linter.unusedVariables false
namespace Go.Ax.TryP
/-! livery/octet.BigOf -/
noncomputable def p_octet_BigOf_E : AE := AE.of [(5, ty5), (22, ty22), (33, ty33)] []
noncomputable def p_octet_BigOf_H : Hints := [(5, [4, 15, 16, 17]), (2000000, [4]), (2000001, [4, 15, 16, 17]), (3000000, [2, 3])]
noncomputable def p_octet_BigOf_c : Code := (Go.Proofs.Try.f48).body.getD .skip
noncomputable def p_octet_BigOf_l5_S : Shape where
  h := { tmps := [.any, .any, .any, .any, .sc (.int .u64), .any, .any, .any, .any, .any, .any, .any, .any, .any, .any, .sc (.vec 0 none 1), .sc (.int .i64), .sc (.int .i64), .any, .any, .any, .any, .any, .any, .any, .any, .any, .any], mem := [.live [.xs (.int .u8) none] (.ro)] }
  ks := [.int, .nat, .int, .int, .nat, .xs]
  st := fun x => { tmps := [.one .any, .one .any, .one .any, .one .any, .one (.sc (.int .u64 x.1)), .one .any, .one .any, .one .any, .one .any, .one .any, .one .any, .one .any, .one .any, .one .any, .one .any, .one (.sc (.vec 0 x.2.1 1)), .one (.sc (.int .i64 x.2.2.1)), .one (.sc (.int .i64 x.2.2.2.1)), .one .any, .one .any, .one .any, .one .any, .one .any, .one .any, .one .any, .one .any, .one .any, .one .any], mem := [.live { segs := [.xs (.int .u8) x.2.2.2.2.1 x.2.2.2.2.2.1], own := .ro }] }
noncomputable def p_octet_BigOf_l5_F (N : Nat) (β : Type) (x : (Int × Nat × Int × Int × Nat × List Int × Unit)) (kn : (Int × Nat × Int × Int × Nat × List Int × Unit) → Option β) (ke : ((Int × Unit)) → Option β) : Option β :=
  if (x.2.2.2.1 < x.2.2.1) then
    if 0 ≤ x.2.2.2.1 then (
    if x.2.2.2.1 < ((x.2.1 : Nat) : Int) then (
    if (x.2.2.2.1.toNat) < x.2.2.2.2.1 then (
    kn ((ior IntKind.u64 (ishl IntKind.u64 x.1 (8:Int)) (IntKind.u64.wrap (List.getD x.2.2.2.2.2.1 (x.2.2.2.1.toNat) 0))), x.2.1, x.2.2.1, (IntKind.i64.wrap (x.2.2.2.1 + (1:Int))), x.2.2.2.2.1, x.2.2.2.2.2.1, ())) else none) else none) else none
  else
    ke (x.1, ())
noncomputable def p_octet_BigOf_l5_go : Go' ((Int × Unit)) := fun y K => K (.exit 0) { tmps := [.one .any, .one .any, .one .any, .one .any, .one (.sc (.int .u64 y.1)), .one .any, .one .any, .one .any, .one .any, .one .any, .one .any, .one .any, .one .any, .one .any, .one .any, .one .any, .one .any, .one .any, .one .any, .one .any, .one .any, .one .any, .one .any, .one .any, .one .any, .one .any, .one .any, .one .any], mem := [] }
noncomputable def p_octet_BigOf_l5_L (N : Nat) : LT := upd (LT.nil) 5 (loopE p_octet_BigOf_l5_S N (p_octet_BigOf_l5_F N) p_octet_BigOf_l5_go)
theorem p_octet_BigOf_l5_ok (N : Nat) : OkAll p_octet_BigOf_E p_octet_BigOf_H N (p_octet_BigOf_l5_L N) (subs p_octet_BigOf_c) :=
  addLoop (c := theLoop 5 p_octet_BigOf_c) (OkAll.nil) (by kernel_rfl) (fun x => by kernel_rfl) (fun β x kn ke => by kernel_rfl)
abbrev p_octet_BigOf_ks : List Kd := [.sl (.int .u8)]
abbrev p_octet_BigOf_rs : List Kd := [.int .u64, .int .i64]
noncomputable def p_octet_BigOf (N : Nat) (x : List Int × Unit) : Option (Int × Int) :=
  if ((((List.length x.1) : Nat) : Int) < (1:Int)) then
    some ((0:Int), (1:Int))
  else
    if ((((List.length x.1) : Nat) : Int) > (8:Int)) then
      some ((0:Int), (1:Int))
    else
      iter (p_octet_BigOf_l5_F N) N ((0:Int), (List.length x.1), (((List.length x.1) : Nat) : Int), (0:Int), (List.length x.1), x.1, ()) fun y1 => (
      some (y1.1, (0:Int)))
theorem p_octet_BigOf_eq (N : Nat) (x : Ds [.sl (.int .u8)]) : funL p_octet_BigOf_E p_octet_BigOf_H (p_octet_BigOf_l5_L N) N Go.Proofs.Try.f48 p_octet_BigOf_c [.sl (.int .u8)] [.int .u64, .int .i64] x = p_octet_BigOf N x := by kernel_rfl
theorem p_octet_BigOf_Eok : p_octet_BigOf_E.Ok Go.Proofs.Try.prog := AE.of_ok (all_cons ty5_ok (all_cons ty22_ok (all_cons ty33_ok all_nil))) all_nil
theorem p_octet_BigOf_ok {g : Ds [.sl (.int .u8)] → Option (Rs [.int .u64, .int .i64])} (hg : ∀ x r, g x = some r → ∃ N, p_octet_BigOf N x = some r) : SigOk Go.Proofs.Try.prog 48 ⟨[.sl (.int .u8)], [.int .u64, .int .i64], g⟩ :=
  fun_of (E := p_octet_BigOf_E) (H := p_octet_BigOf_H) (L := fun N => p_octet_BigOf_l5_L N) (c := p_octet_BigOf_c) (ks := p_octet_BigOf_ks) (rs := p_octet_BigOf_rs) (F := p_octet_BigOf) (p_octet_BigOf_Eok) mix Go.Proofs.Try.func48 (by kernel_rfl) (fun N => p_octet_BigOf_l5_ok N) p_octet_BigOf_eq hg

/-! livery/liveryref01.Number -/
noncomputable def p_ref01_Number_E : AE := AE.of [(5, ty5), (22, ty22), (33, ty33)] []
noncomputable def p_ref01_Number_H : Hints := [(3, [3, 6, 7, 8]), (2000000, [3]), (2000001, [3, 6, 7, 8]), (3000000, [2])]
noncomputable def p_ref01_Number_c : Code := (Go.Proofs.Try.f41).body.getD .skip
noncomputable def p_ref01_Number_l3_S : Shape where
  h := { tmps := [.any, .any, .any, .sc (.int .u64), .any, .any, .sc (.vec 0 none 1), .sc (.int .i64), .sc (.int .i64), .any, .any, .any, .any, .any, .any, .any, .any, .any, .any], mem := [.live [.xs (.int .u8) none] (.ro)] }
  ks := [.int, .nat, .int, .int, .nat, .xs]
  st := fun x => { tmps := [.one .any, .one .any, .one .any, .one (.sc (.int .u64 x.1)), .one .any, .one .any, .one (.sc (.vec 0 x.2.1 1)), .one (.sc (.int .i64 x.2.2.1)), .one (.sc (.int .i64 x.2.2.2.1)), .one .any, .one .any, .one .any, .one .any, .one .any, .one .any, .one .any, .one .any, .one .any, .one .any], mem := [.live { segs := [.xs (.int .u8) x.2.2.2.2.1 x.2.2.2.2.2.1], own := .ro }] }
noncomputable def p_ref01_Number_l3_F (N : Nat) (β : Type) (x : (Int × Nat × Int × Int × Nat × List Int × Unit)) (kn : (Int × Nat × Int × Int × Nat × List Int × Unit) → Option β) (ke : ((Int × Unit)) → Option β) : Option β :=
  if (x.2.2.2.1 < x.2.2.1) then
    if 0 ≤ x.2.2.2.1 then (
    if x.2.2.2.1 < ((x.2.1 : Nat) : Int) then (
    if (x.2.2.2.1.toNat) < x.2.2.2.2.1 then (
    kn ((IntKind.u64.wrap ((IntKind.u64.wrap (x.1 * (256:Int))) + (IntKind.u64.wrap (List.getD x.2.2.2.2.2.1 (x.2.2.2.1.toNat) 0)))), x.2.1, x.2.2.1, (IntKind.i64.wrap (x.2.2.2.1 + (1:Int))), x.2.2.2.2.1, x.2.2.2.2.2.1, ())) else none) else none) else none
  else
    ke (x.1, ())
noncomputable def p_ref01_Number_l3_go : Go' ((Int × Unit)) := fun y K => K (.exit 0) { tmps := [.one .any, .one .any, .one .any, .one (.sc (.int .u64 y.1)), .one .any, .one .any, .one .any, .one .any, .one .any, .one .any, .one .any, .one .any, .one .any, .one .any, .one .any, .one .any, .one .any, .one .any, .one .any], mem := [] }
noncomputable def p_ref01_Number_l3_L (N : Nat) : LT := upd (LT.nil) 3 (loopE p_ref01_Number_l3_S N (p_ref01_Number_l3_F N) p_ref01_Number_l3_go)
theorem p_ref01_Number_l3_ok (N : Nat) : OkAll p_ref01_Number_E p_ref01_Number_H N (p_ref01_Number_l3_L N) (subs p_ref01_Number_c) :=
  addLoop (c := theLoop 3 p_ref01_Number_c) (OkAll.nil) (by kernel_rfl) (fun x => by kernel_rfl) (fun β x kn ke => by kernel_rfl)
abbrev p_ref01_Number_ks : List Kd := [.sl (.int .u8)]
abbrev p_ref01_Number_rs : List Kd := [.int .u64]
noncomputable def p_ref01_Number (N : Nat) (x : List Int × Unit) : Option (Int) :=
  iter (p_ref01_Number_l3_F N) N ((0:Int), (List.length x.1), (((List.length x.1) : Nat) : Int), (0:Int), (List.length x.1), x.1, ()) fun y1 => (
  some y1.1)
theorem p_ref01_Number_eq (N : Nat) (x : Ds [.sl (.int .u8)]) : funL p_ref01_Number_E p_ref01_Number_H (p_ref01_Number_l3_L N) N Go.Proofs.Try.f41 p_ref01_Number_c [.sl (.int .u8)] [.int .u64] x = p_ref01_Number N x := by kernel_rfl
theorem p_ref01_Number_Eok : p_ref01_Number_E.Ok Go.Proofs.Try.prog := AE.of_ok (all_cons ty5_ok (all_cons ty22_ok (all_cons ty33_ok all_nil))) all_nil
theorem p_ref01_Number_ok {g : Ds [.sl (.int .u8)] → Option (Rs [.int .u64])} (hg : ∀ x r, g x = some r → ∃ N, p_ref01_Number N x = some r) : SigOk Go.Proofs.Try.prog 41 ⟨[.sl (.int .u8)], [.int .u64], g⟩ :=
  fun_of (E := p_ref01_Number_E) (H := p_ref01_Number_H) (L := fun N => p_ref01_Number_l3_L N) (c := p_ref01_Number_c) (ks := p_ref01_Number_ks) (rs := p_ref01_Number_rs) (F := p_ref01_Number) (p_ref01_Number_Eok) mix Go.Proofs.Try.func41 (by kernel_rfl) (fun N => p_ref01_Number_l3_ok N) p_ref01_Number_eq hg

/-! (*livery/capsule.reader).take -/
noncomputable def p_capsule_reader_take_E : AE := AE.of [(4, ty4), (5, ty5), (22, ty22), (23, ty23), (52, ty52)] [(28, ⟨[.sls (.int .u8)], [.sl (.int .u8)], g_octet_Join⟩)]
noncomputable def p_capsule_reader_take_H : Hints := [(3000000, [4])]
noncomputable def p_capsule_reader_take_c : Code := (Go.Proofs.Try.f40).body.getD .skip
abbrev p_capsule_reader_take_ks : List Kd := [.io [.fs (.int .u8), .bool], .int .i64]
abbrev p_capsule_reader_take_rs : List Kd := [.sl (.int .u8), .cat [.fs (.int .u8), .bool]]
noncomputable def p_capsule_reader_take (N : Nat) (x : (List Int × Bool × Unit) × Int × Unit) : Option (List Int × (List Int × Bool × Unit)) :=
  if (x.1.2.1 = true) then
    if 0 ≤ (if (8:Int) < x.2.1 then (8:Int) else x.2.1) then (
    if (if (8:Int) < x.2.1 then (8:Int) else x.2.1) = (if (8:Int) < x.2.1 then (8:Int) else x.2.1) then (
    if (if (8:Int) < x.2.1 then (8:Int) else x.2.1) * 1 ≤ 281474976710656 then (
    some ((List.replicate ((if (8:Int) < x.2.1 then (8:Int) else x.2.1).toNat) 0), (x.1.1, true, ()))) else none) else none) else none
  else
    if (((List.length x.1.1 : Nat) : Int) < x.2.1) then
      if 0 ≤ (if (8:Int) < x.2.1 then (8:Int) else x.2.1) then (
      if (if (8:Int) < x.2.1 then (8:Int) else x.2.1) = (if (8:Int) < x.2.1 then (8:Int) else x.2.1) then (
      if (if (8:Int) < x.2.1 then (8:Int) else x.2.1) * 1 ≤ 281474976710656 then (
      some ((List.replicate ((if (8:Int) < x.2.1 then (8:Int) else x.2.1).toNat) 0), (x.1.1, true, ()))) else none) else none) else none
    else
      if 0 ≤ x.2.1 then (
      if x.2.1 ≤ (((List.length x.1.1) : Nat) : Int) then (
      (g_octet_Join ([(List.take ((x.2.1.toNat) - 0) (List.drop 0 x.1.1))], ())).bind fun r1 => (
      if 0 ≤ x.2.1 then (
      if x.2.1 ≤ (((List.length x.1.1) : Nat) : Int) then (
      some (r1, ((List.take ((List.length x.1.1) - (x.2.1.toNat)) (List.drop (x.2.1.toNat) x.1.1)), (decide (x.1.2.1 = true)), ()))) else none) else none)) else none) else none
theorem p_capsule_reader_take_eq (N : Nat) (x : Ds [.io [.fs (.int .u8), .bool], .int .i64]) : funL p_capsule_reader_take_E p_capsule_reader_take_H (LT.nil) N Go.Proofs.Try.f40 p_capsule_reader_take_c [.io [.fs (.int .u8), .bool], .int .i64] [.sl (.int .u8), .cat [.fs (.int .u8), .bool]] x = p_capsule_reader_take N x := by kernel_rfl
theorem p_capsule_reader_take_Eok (he_octet_Join : SigOk Go.Proofs.Try.prog 28 ⟨[.sls (.int .u8)], [.sl (.int .u8)], g_octet_Join⟩) : p_capsule_reader_take_E.Ok Go.Proofs.Try.prog := AE.of_ok (all_cons ty4_ok (all_cons ty5_ok (all_cons ty22_ok (all_cons ty23_ok (all_cons ty52_ok all_nil))))) (all_cons ⟨he_octet_Join, enters_octet_Join⟩ all_nil)
theorem p_capsule_reader_take_ok (he_octet_Join : SigOk Go.Proofs.Try.prog 28 ⟨[.sls (.int .u8)], [.sl (.int .u8)], g_octet_Join⟩) {g : Ds [.io [.fs (.int .u8), .bool], .int .i64] → Option (Rs [.sl (.int .u8), .cat [.fs (.int .u8), .bool]])} (hg : ∀ x r, g x = some r → ∃ N, p_capsule_reader_take N x = some r) : SigOk Go.Proofs.Try.prog 40 ⟨[.io [.fs (.int .u8), .bool], .int .i64], [.sl (.int .u8), .cat [.fs (.int .u8), .bool]], g⟩ :=
  fun_of (E := p_capsule_reader_take_E) (H := p_capsule_reader_take_H) (L := fun N => LT.nil) (c := p_capsule_reader_take_c) (ks := p_capsule_reader_take_ks) (rs := p_capsule_reader_take_rs) (F := p_capsule_reader_take) (p_capsule_reader_take_Eok he_octet_Join) mix Go.Proofs.Try.func40 (by kernel_rfl) (fun N => OkAll.nil) p_capsule_reader_take_eq hg

/-! (*livery/capsule.reader).number -/
noncomputable def p_capsule_reader_number_E : AE := AE.of [] [(40, ⟨[.io [.fs (.int .u8), .bool], .int .i64], [.sl (.int .u8), .cat [.fs (.int .u8), .bool]], g_capsule_reader_take⟩), (48, ⟨[.sl (.int .u8)], [.int .u64, .int .i64], g_octet_BigOf⟩)]
noncomputable def p_capsule_reader_number_H : Hints := [(3000000, [4])]
noncomputable def p_capsule_reader_number_c : Code := (Go.Proofs.Try.f38).body.getD .skip
abbrev p_capsule_reader_number_ks : List Kd := [.io [.fs (.int .u8), .bool], .int .i64]
abbrev p_capsule_reader_number_rs : List Kd := [.int .u64, .cat [.fs (.int .u8), .bool]]
noncomputable def p_capsule_reader_number (N : Nat) (x : (List Int × Bool × Unit) × Int × Unit) : Option (Int × (List Int × Bool × Unit)) :=
  (g_capsule_reader_take ((x.1.1, (decide (x.1.2.1 = true)), ()), x.2.1, ())).bind fun r1 => (
  (g_octet_BigOf (r1.1, ())).bind fun r2 => (
  some (r2.1, (r1.2.1, (decide (r1.2.2.1 = true)), ()))))
theorem p_capsule_reader_number_eq (N : Nat) (x : Ds [.io [.fs (.int .u8), .bool], .int .i64]) : funL p_capsule_reader_number_E p_capsule_reader_number_H (LT.nil) N Go.Proofs.Try.f38 p_capsule_reader_number_c [.io [.fs (.int .u8), .bool], .int .i64] [.int .u64, .cat [.fs (.int .u8), .bool]] x = p_capsule_reader_number N x := by kernel_rfl
theorem p_capsule_reader_number_Eok (he_capsule_reader_take : SigOk Go.Proofs.Try.prog 40 ⟨[.io [.fs (.int .u8), .bool], .int .i64], [.sl (.int .u8), .cat [.fs (.int .u8), .bool]], g_capsule_reader_take⟩) (he_octet_BigOf : SigOk Go.Proofs.Try.prog 48 ⟨[.sl (.int .u8)], [.int .u64, .int .i64], g_octet_BigOf⟩) : p_capsule_reader_number_E.Ok Go.Proofs.Try.prog := AE.of_ok all_nil (all_cons ⟨he_capsule_reader_take, enters_capsule_reader_take⟩ (all_cons ⟨he_octet_BigOf, enters_octet_BigOf⟩ all_nil))
theorem p_capsule_reader_number_ok (he_capsule_reader_take : SigOk Go.Proofs.Try.prog 40 ⟨[.io [.fs (.int .u8), .bool], .int .i64], [.sl (.int .u8), .cat [.fs (.int .u8), .bool]], g_capsule_reader_take⟩) (he_octet_BigOf : SigOk Go.Proofs.Try.prog 48 ⟨[.sl (.int .u8)], [.int .u64, .int .i64], g_octet_BigOf⟩) {g : Ds [.io [.fs (.int .u8), .bool], .int .i64] → Option (Rs [.int .u64, .cat [.fs (.int .u8), .bool]])} (hg : ∀ x r, g x = some r → ∃ N, p_capsule_reader_number N x = some r) : SigOk Go.Proofs.Try.prog 38 ⟨[.io [.fs (.int .u8), .bool], .int .i64], [.int .u64, .cat [.fs (.int .u8), .bool]], g⟩ :=
  fun_of (E := p_capsule_reader_number_E) (H := p_capsule_reader_number_H) (L := fun N => LT.nil) (c := p_capsule_reader_number_c) (ks := p_capsule_reader_number_ks) (rs := p_capsule_reader_number_rs) (F := p_capsule_reader_number) (p_capsule_reader_number_Eok he_capsule_reader_take he_octet_BigOf) mix Go.Proofs.Try.func38 (by kernel_rfl) (fun N => OkAll.nil) p_capsule_reader_number_eq hg

/-! (*livery/capsule.reader).text -/
noncomputable def p_capsule_reader_text_E : AE := AE.of [(3, ty3), (33, ty33)] [(38, ⟨[.io [.fs (.int .u8), .bool], .int .i64], [.int .u64, .cat [.fs (.int .u8), .bool]], g_capsule_reader_number⟩), (40, ⟨[.io [.fs (.int .u8), .bool], .int .i64], [.sl (.int .u8), .cat [.fs (.int .u8), .bool]], g_capsule_reader_take⟩)]
noncomputable def p_capsule_reader_text_H : Hints := [(3000000, [4])]
noncomputable def p_capsule_reader_text_c : Code := (Go.Proofs.Try.f39).body.getD .skip
abbrev p_capsule_reader_text_ks : List Kd := [.io [.fs (.int .u8), .bool], .int .i64]
abbrev p_capsule_reader_text_rs : List Kd := [.sl (.int .u8), .cat [.fs (.int .u8), .bool]]
noncomputable def p_capsule_reader_text (N : Nat) (x : (List Int × Bool × Unit) × Int × Unit) : Option (List Int × (List Int × Bool × Unit)) :=
  (g_capsule_reader_number ((x.1.1, (decide (x.1.2.1 = true)), ()), x.2.1, ())).bind fun r1 => (
  (g_capsule_reader_take ((r1.2.1, (decide (r1.2.2.1 = true)), ()), (IntKind.i64.wrap r1.1), ())).bind fun r2 => (
  some (r2.1, (r2.2.1, (decide (r2.2.2.1 = true)), ()))))
theorem p_capsule_reader_text_eq (N : Nat) (x : Ds [.io [.fs (.int .u8), .bool], .int .i64]) : funL p_capsule_reader_text_E p_capsule_reader_text_H (LT.nil) N Go.Proofs.Try.f39 p_capsule_reader_text_c [.io [.fs (.int .u8), .bool], .int .i64] [.sl (.int .u8), .cat [.fs (.int .u8), .bool]] x = p_capsule_reader_text N x := by kernel_rfl
theorem p_capsule_reader_text_Eok (he_capsule_reader_number : SigOk Go.Proofs.Try.prog 38 ⟨[.io [.fs (.int .u8), .bool], .int .i64], [.int .u64, .cat [.fs (.int .u8), .bool]], g_capsule_reader_number⟩) (he_capsule_reader_take : SigOk Go.Proofs.Try.prog 40 ⟨[.io [.fs (.int .u8), .bool], .int .i64], [.sl (.int .u8), .cat [.fs (.int .u8), .bool]], g_capsule_reader_take⟩) : p_capsule_reader_text_E.Ok Go.Proofs.Try.prog := AE.of_ok (all_cons ty3_ok (all_cons ty33_ok all_nil)) (all_cons ⟨he_capsule_reader_number, enters_capsule_reader_number⟩ (all_cons ⟨he_capsule_reader_take, enters_capsule_reader_take⟩ all_nil))
theorem p_capsule_reader_text_ok (he_capsule_reader_number : SigOk Go.Proofs.Try.prog 38 ⟨[.io [.fs (.int .u8), .bool], .int .i64], [.int .u64, .cat [.fs (.int .u8), .bool]], g_capsule_reader_number⟩) (he_capsule_reader_take : SigOk Go.Proofs.Try.prog 40 ⟨[.io [.fs (.int .u8), .bool], .int .i64], [.sl (.int .u8), .cat [.fs (.int .u8), .bool]], g_capsule_reader_take⟩) {g : Ds [.io [.fs (.int .u8), .bool], .int .i64] → Option (Rs [.sl (.int .u8), .cat [.fs (.int .u8), .bool]])} (hg : ∀ x r, g x = some r → ∃ N, p_capsule_reader_text N x = some r) : SigOk Go.Proofs.Try.prog 39 ⟨[.io [.fs (.int .u8), .bool], .int .i64], [.sl (.int .u8), .cat [.fs (.int .u8), .bool]], g⟩ :=
  fun_of (E := p_capsule_reader_text_E) (H := p_capsule_reader_text_H) (L := fun N => LT.nil) (c := p_capsule_reader_text_c) (ks := p_capsule_reader_text_ks) (rs := p_capsule_reader_text_rs) (F := p_capsule_reader_text) (p_capsule_reader_text_Eok he_capsule_reader_number he_capsule_reader_take) mix Go.Proofs.Try.func39 (by kernel_rfl) (fun N => OkAll.nil) p_capsule_reader_text_eq hg

/-! livery/capsule.Get -/
noncomputable def p_capsule_Get_E : AE := AE.of [(3, ty3), (4, ty4), (22, ty22), (32, ty32), (33, ty33), (35, ty35), (37, ty37), (52, ty52)] [(38, ⟨[.io [.fs (.int .u8), .bool], .int .i64], [.int .u64, .cat [.fs (.int .u8), .bool]], g_capsule_reader_number⟩), (39, ⟨[.io [.fs (.int .u8), .bool], .int .i64], [.sl (.int .u8), .cat [.fs (.int .u8), .bool]], g_capsule_reader_text⟩), (40, ⟨[.io [.fs (.int .u8), .bool], .int .i64], [.sl (.int .u8), .cat [.fs (.int .u8), .bool]], g_capsule_reader_take⟩), (20, ⟨[.cat [.int .i64, .int .i64, .int .u32, .int .u32, .int .u64, .int .u64, .sl (.int .u8), .sl (.int .u8), .sl (.int .u8), .sl (.int .u8)]], [.int .i64], g_capsule_Check⟩)]
noncomputable def p_capsule_Get_H : Hints := [(3000000, [2, 3])]
noncomputable def p_capsule_Get_c : Code := (Go.Proofs.Try.f26).body.getD .skip
abbrev p_capsule_Get_ks : List Kd := [.fsl (.int .u8)]
abbrev p_capsule_Get_rs : List Kd := [.cat [.int .i64, .int .i64, .int .u32, .int .u32, .int .u64, .int .u64, .sl (.int .u8), .sl (.int .u8), .sl (.int .u8), .sl (.int .u8)], .int .i64]
noncomputable def p_capsule_Get (N : Nat) (x : List Int × Unit) : Option ((Int × Int × Int × Int × Int × Int × List Int × List Int × List Int × List Int × Unit) × Int) :=
  (g_capsule_reader_number ((x.1, ((List.getD [0] 0 0) != 0), ()), (1:Int), ())).bind fun r1 => (
  (g_capsule_reader_number ((r1.2.1, (decide (r1.2.2.1 = true)), ()), (1:Int), ())).bind fun r2 => (
  (g_capsule_reader_number ((r2.2.1, (decide (r2.2.2.1 = true)), ()), (4:Int), ())).bind fun r3 => (
  (g_capsule_reader_number ((r3.2.1, (decide (r3.2.2.1 = true)), ()), (4:Int), ())).bind fun r4 => (
  (g_capsule_reader_number ((r4.2.1, (decide (r4.2.2.1 = true)), ()), (8:Int), ())).bind fun r5 => (
  (g_capsule_reader_number ((r5.2.1, (decide (r5.2.2.1 = true)), ()), (8:Int), ())).bind fun r6 => (
  (g_capsule_reader_text ((r6.2.1, (decide (r6.2.2.1 = true)), ()), (2:Int), ())).bind fun r7 => (
  (g_capsule_reader_take ((r7.2.1, (decide (r7.2.2.1 = true)), ()), (1088:Int), ())).bind fun r8 => (
  (g_capsule_reader_text ((r8.2.1, (decide (r8.2.2.1 = true)), ()), (2:Int), ())).bind fun r9 => (
  (g_capsule_reader_take ((r9.2.1, (decide (r9.2.2.1 = true)), ()), (3309:Int), ())).bind fun r10 => (
  if (r10.2.2.1 = true) then
    some (((List.getD [0] 0 0), (List.getD [0] 0 0), (List.getD [0] 0 0), (List.getD [0] 0 0), (List.getD (List.take 1 (List.replicate 2 0)) 0 0), (List.getD (List.drop 1 (List.replicate 2 0)) 0 0), [], [], [], [], ()), (230:Int))
  else
    if (((List.length r10.2.1 : Nat) : Int) > (0:Int)) then
      some (((List.getD [0] 0 0), (List.getD [0] 0 0), (List.getD [0] 0 0), (List.getD [0] 0 0), (List.getD (List.take 1 (List.replicate 2 0)) 0 0), (List.getD (List.drop 1 (List.replicate 2 0)) 0 0), [], [], [], [], ()), (230:Int))
    else
      (g_capsule_Check (((List.getD (List.set [0] 0 (IntKind.i64.wrap r1.1)) 0 0), (List.getD (List.set [0] 0 (IntKind.i64.wrap r2.1)) 0 0), (List.getD (List.set [0] 0 (IntKind.u32.wrap r3.1)) 0 0), (List.getD (List.set [0] 0 (IntKind.u32.wrap r4.1)) 0 0), (List.getD (List.take 1 (List.set (List.set (List.replicate 2 0) 0 r5.1) 1 r6.1)) 0 0), (List.getD (List.drop 1 (List.set (List.set (List.replicate 2 0) 0 r5.1) 1 r6.1)) 0 0), r7.1, r8.1, r9.1, r10.1, ()), ())).bind fun r11 => (
      if (r11 ≠ (0:Int)) then
        some (((List.getD [0] 0 0), (List.getD [0] 0 0), (List.getD [0] 0 0), (List.getD [0] 0 0), (List.getD (List.take 1 (List.replicate 2 0)) 0 0), (List.getD (List.drop 1 (List.replicate 2 0)) 0 0), [], [], [], [], ()), (230:Int))
      else
        some (((List.getD (List.set [0] 0 (IntKind.i64.wrap r1.1)) 0 0), (List.getD (List.set [0] 0 (IntKind.i64.wrap r2.1)) 0 0), (List.getD (List.set [0] 0 (IntKind.u32.wrap r3.1)) 0 0), (List.getD (List.set [0] 0 (IntKind.u32.wrap r4.1)) 0 0), (List.getD (List.take 1 (List.set (List.set (List.replicate 2 0) 0 r5.1) 1 r6.1)) 0 0), (List.getD (List.drop 1 (List.set (List.set (List.replicate 2 0) 0 r5.1) 1 r6.1)) 0 0), r7.1, r8.1, r9.1, r10.1, ()), (0:Int)))))))))))))
theorem p_capsule_Get_eq (N : Nat) (x : Ds [.fsl (.int .u8)]) : funL p_capsule_Get_E p_capsule_Get_H (LT.nil) N Go.Proofs.Try.f26 p_capsule_Get_c [.fsl (.int .u8)] [.cat [.int .i64, .int .i64, .int .u32, .int .u32, .int .u64, .int .u64, .sl (.int .u8), .sl (.int .u8), .sl (.int .u8), .sl (.int .u8)], .int .i64] x = p_capsule_Get N x := by kernel_rfl
theorem p_capsule_Get_Eok (he_capsule_reader_number : SigOk Go.Proofs.Try.prog 38 ⟨[.io [.fs (.int .u8), .bool], .int .i64], [.int .u64, .cat [.fs (.int .u8), .bool]], g_capsule_reader_number⟩) (he_capsule_reader_text : SigOk Go.Proofs.Try.prog 39 ⟨[.io [.fs (.int .u8), .bool], .int .i64], [.sl (.int .u8), .cat [.fs (.int .u8), .bool]], g_capsule_reader_text⟩) (he_capsule_reader_take : SigOk Go.Proofs.Try.prog 40 ⟨[.io [.fs (.int .u8), .bool], .int .i64], [.sl (.int .u8), .cat [.fs (.int .u8), .bool]], g_capsule_reader_take⟩) (he_capsule_Check : SigOk Go.Proofs.Try.prog 20 ⟨[.cat [.int .i64, .int .i64, .int .u32, .int .u32, .int .u64, .int .u64, .sl (.int .u8), .sl (.int .u8), .sl (.int .u8), .sl (.int .u8)]], [.int .i64], g_capsule_Check⟩) : p_capsule_Get_E.Ok Go.Proofs.Try.prog := AE.of_ok (all_cons ty3_ok (all_cons ty4_ok (all_cons ty22_ok (all_cons ty32_ok (all_cons ty33_ok (all_cons ty35_ok (all_cons ty37_ok (all_cons ty52_ok all_nil)))))))) (all_cons ⟨he_capsule_reader_number, enters_capsule_reader_number⟩ (all_cons ⟨he_capsule_reader_text, enters_capsule_reader_text⟩ (all_cons ⟨he_capsule_reader_take, enters_capsule_reader_take⟩ (all_cons ⟨he_capsule_Check, enters_capsule_Check⟩ all_nil))))
theorem p_capsule_Get_ok (he_capsule_reader_number : SigOk Go.Proofs.Try.prog 38 ⟨[.io [.fs (.int .u8), .bool], .int .i64], [.int .u64, .cat [.fs (.int .u8), .bool]], g_capsule_reader_number⟩) (he_capsule_reader_text : SigOk Go.Proofs.Try.prog 39 ⟨[.io [.fs (.int .u8), .bool], .int .i64], [.sl (.int .u8), .cat [.fs (.int .u8), .bool]], g_capsule_reader_text⟩) (he_capsule_reader_take : SigOk Go.Proofs.Try.prog 40 ⟨[.io [.fs (.int .u8), .bool], .int .i64], [.sl (.int .u8), .cat [.fs (.int .u8), .bool]], g_capsule_reader_take⟩) (he_capsule_Check : SigOk Go.Proofs.Try.prog 20 ⟨[.cat [.int .i64, .int .i64, .int .u32, .int .u32, .int .u64, .int .u64, .sl (.int .u8), .sl (.int .u8), .sl (.int .u8), .sl (.int .u8)]], [.int .i64], g_capsule_Check⟩) {g : Ds [.fsl (.int .u8)] → Option (Rs [.cat [.int .i64, .int .i64, .int .u32, .int .u32, .int .u64, .int .u64, .sl (.int .u8), .sl (.int .u8), .sl (.int .u8), .sl (.int .u8)], .int .i64])} (hg : ∀ x r, g x = some r → ∃ N, p_capsule_Get N x = some r) : SigOk Go.Proofs.Try.prog 26 ⟨[.fsl (.int .u8)], [.cat [.int .i64, .int .i64, .int .u32, .int .u32, .int .u64, .int .u64, .sl (.int .u8), .sl (.int .u8), .sl (.int .u8), .sl (.int .u8)], .int .i64], g⟩ :=
  fun_of (E := p_capsule_Get_E) (H := p_capsule_Get_H) (L := fun N => LT.nil) (c := p_capsule_Get_c) (ks := p_capsule_Get_ks) (rs := p_capsule_Get_rs) (F := p_capsule_Get) (p_capsule_Get_Eok he_capsule_reader_number he_capsule_reader_text he_capsule_reader_take he_capsule_Check) mix Go.Proofs.Try.func26 (by kernel_rfl) (fun N => OkAll.nil) p_capsule_Get_eq hg

/-! livery/liveryref23.Get -/
noncomputable def p_ref23_Get_E : AE := AE.of [(3, ty3), (5, ty5), (22, ty22), (23, ty23), (32, ty32), (33, ty33), (35, ty35), (37, ty37)] [(41, ⟨[.sl (.int .u8)], [.int .u64], g_ref01_Number⟩), (25, ⟨[.sls (.int .u8)], [.sl (.int .u8)], g_ref01_Join⟩), (15, ⟨[.cat [.int .i64, .int .i64, .int .u32, .int .u32, .int .u64, .int .u64, .sl (.int .u8), .sl (.int .u8), .sl (.int .u8), .sl (.int .u8)]], [.bool], g_ref23_May⟩)]
noncomputable def p_ref23_Get_H : Hints := [(3000000, [2, 3])]
noncomputable def p_ref23_Get_c : Code := (Go.Proofs.Try.f27).body.getD .skip
abbrev p_ref23_Get_ks : List Kd := [.fsl (.int .u8)]
abbrev p_ref23_Get_rs : List Kd := [.cat [.int .i64, .int .i64, .int .u32, .int .u32, .int .u64, .int .u64, .sl (.int .u8), .sl (.int .u8), .sl (.int .u8), .sl (.int .u8)], .int .i64]
noncomputable def p_ref23_Get (N : Nat) (x : List Int × Unit) : Option ((Int × Int × Int × Int × Int × Int × List Int × List Int × List Int × List Int × Unit) × Int) :=
  if (((List.length x.1 : Nat) : Int) < (28:Int)) then
    some (((List.getD [0] 0 0), (List.getD [0] 0 0), (List.getD [0] 0 0), (List.getD [0] 0 0), (List.getD (List.take 1 (List.replicate 2 0)) 0 0), (List.getD (List.drop 1 (List.replicate 2 0)) 0 0), [], [], [], [], ()), (230:Int))
  else
    if 28 ≤ (List.length x.1) then (
    if 26 ≤ 28 then (
    (g_ref01_Number ((List.take (28 - 26) (List.drop 26 x.1)), ())).bind fun r1 => (
    if (((List.length x.1 : Nat) : Int) < (IntKind.i64.wrap ((IntKind.i64.wrap ((IntKind.i64.wrap ((28:Int) + (IntKind.i64.wrap r1))) + (1088:Int))) + (2:Int)))) then
      some (((List.getD [0] 0 0), (List.getD [0] 0 0), (List.getD [0] 0 0), (List.getD [0] 0 0), (List.getD (List.take 1 (List.replicate 2 0)) 0 0), (List.getD (List.drop 1 (List.replicate 2 0)) 0 0), [], [], [], [], ()), (230:Int))
    else
      if 0 ≤ (IntKind.i64.wrap ((IntKind.i64.wrap ((IntKind.i64.wrap ((28:Int) + (IntKind.i64.wrap r1))) + (1088:Int))) + (2:Int))) then (
      if (IntKind.i64.wrap ((IntKind.i64.wrap ((IntKind.i64.wrap ((28:Int) + (IntKind.i64.wrap r1))) + (1088:Int))) + (2:Int))) ≤ (((List.length x.1) : Nat) : Int) then (
      if 0 ≤ (IntKind.i64.wrap ((IntKind.i64.wrap ((28:Int) + (IntKind.i64.wrap r1))) + (1088:Int))) then (
      if (IntKind.i64.wrap ((IntKind.i64.wrap ((28:Int) + (IntKind.i64.wrap r1))) + (1088:Int))) ≤ ((((IntKind.i64.wrap ((IntKind.i64.wrap ((IntKind.i64.wrap ((28:Int) + (IntKind.i64.wrap r1))) + (1088:Int))) + (2:Int))).toNat) : Nat) : Int) then (
      (g_ref01_Number ((List.take (((IntKind.i64.wrap ((IntKind.i64.wrap ((IntKind.i64.wrap ((28:Int) + (IntKind.i64.wrap r1))) + (1088:Int))) + (2:Int))).toNat) - ((IntKind.i64.wrap ((IntKind.i64.wrap ((28:Int) + (IntKind.i64.wrap r1))) + (1088:Int))).toNat)) (List.drop ((IntKind.i64.wrap ((IntKind.i64.wrap ((28:Int) + (IntKind.i64.wrap r1))) + (1088:Int))).toNat) x.1)), ())).bind fun r2 => (
      if (((List.length x.1 : Nat) : Int) ≠ (IntKind.i64.wrap ((IntKind.i64.wrap ((IntKind.i64.wrap ((IntKind.i64.wrap ((IntKind.i64.wrap ((28:Int) + (IntKind.i64.wrap r1))) + (1088:Int))) + (2:Int))) + (IntKind.i64.wrap r2))) + (3309:Int)))) then
        some (((List.getD [0] 0 0), (List.getD [0] 0 0), (List.getD [0] 0 0), (List.getD [0] 0 0), (List.getD (List.take 1 (List.replicate 2 0)) 0 0), (List.getD (List.drop 1 (List.replicate 2 0)) 0 0), [], [], [], [], ()), (230:Int))
      else
        if 0 ≤ (0:Int) then (
        if (0:Int) < ((List.length x.1 : Nat) : Int) then (
        if 0 ≤ (1:Int) then (
        if (1:Int) < ((List.length x.1 : Nat) : Int) then (
        if 6 ≤ (List.length x.1) then (
        if 2 ≤ 6 then (
        (g_ref01_Number ((List.take (6 - 2) (List.drop 2 x.1)), ())).bind fun r3 => (
        if 10 ≤ (List.length x.1) then (
        if 6 ≤ 10 then (
        (g_ref01_Number ((List.take (10 - 6) (List.drop 6 x.1)), ())).bind fun r4 => (
        if 18 ≤ (List.length x.1) then (
        if 10 ≤ 18 then (
        (g_ref01_Number ((List.take (18 - 10) (List.drop 10 x.1)), ())).bind fun r5 => (
        if 26 ≤ (List.length x.1) then (
        if 18 ≤ 26 then (
        (g_ref01_Number ((List.take (26 - 18) (List.drop 18 x.1)), ())).bind fun r6 => (
        if 0 ≤ (IntKind.i64.wrap ((28:Int) + (IntKind.i64.wrap r1))) then (
        if (IntKind.i64.wrap ((28:Int) + (IntKind.i64.wrap r1))) ≤ (((List.length x.1) : Nat) : Int) then (
        if 28 ≤ ((IntKind.i64.wrap ((28:Int) + (IntKind.i64.wrap r1))).toNat) then (
        (g_ref01_Join ([(List.take (((IntKind.i64.wrap ((28:Int) + (IntKind.i64.wrap r1))).toNat) - 28) (List.drop 28 x.1))], ())).bind fun r7 => (
        if 0 ≤ (IntKind.i64.wrap ((IntKind.i64.wrap ((28:Int) + (IntKind.i64.wrap r1))) + (1088:Int))) then (
        if (IntKind.i64.wrap ((IntKind.i64.wrap ((28:Int) + (IntKind.i64.wrap r1))) + (1088:Int))) ≤ (((List.length x.1) : Nat) : Int) then (
        if 0 ≤ (IntKind.i64.wrap ((28:Int) + (IntKind.i64.wrap r1))) then (
        if (IntKind.i64.wrap ((28:Int) + (IntKind.i64.wrap r1))) ≤ ((((IntKind.i64.wrap ((IntKind.i64.wrap ((28:Int) + (IntKind.i64.wrap r1))) + (1088:Int))).toNat) : Nat) : Int) then (
        (g_ref01_Join ([(List.take (((IntKind.i64.wrap ((IntKind.i64.wrap ((28:Int) + (IntKind.i64.wrap r1))) + (1088:Int))).toNat) - ((IntKind.i64.wrap ((28:Int) + (IntKind.i64.wrap r1))).toNat)) (List.drop ((IntKind.i64.wrap ((28:Int) + (IntKind.i64.wrap r1))).toNat) x.1))], ())).bind fun r8 => (
        if 0 ≤ (IntKind.i64.wrap ((IntKind.i64.wrap ((IntKind.i64.wrap ((IntKind.i64.wrap ((28:Int) + (IntKind.i64.wrap r1))) + (1088:Int))) + (2:Int))) + (IntKind.i64.wrap r2))) then (
        if (IntKind.i64.wrap ((IntKind.i64.wrap ((IntKind.i64.wrap ((IntKind.i64.wrap ((28:Int) + (IntKind.i64.wrap r1))) + (1088:Int))) + (2:Int))) + (IntKind.i64.wrap r2))) ≤ (((List.length x.1) : Nat) : Int) then (
        if 0 ≤ (IntKind.i64.wrap ((IntKind.i64.wrap ((IntKind.i64.wrap ((28:Int) + (IntKind.i64.wrap r1))) + (1088:Int))) + (2:Int))) then (
        if (IntKind.i64.wrap ((IntKind.i64.wrap ((IntKind.i64.wrap ((28:Int) + (IntKind.i64.wrap r1))) + (1088:Int))) + (2:Int))) ≤ ((((IntKind.i64.wrap ((IntKind.i64.wrap ((IntKind.i64.wrap ((IntKind.i64.wrap ((28:Int) + (IntKind.i64.wrap r1))) + (1088:Int))) + (2:Int))) + (IntKind.i64.wrap r2))).toNat) : Nat) : Int) then (
        (g_ref01_Join ([(List.take (((IntKind.i64.wrap ((IntKind.i64.wrap ((IntKind.i64.wrap ((IntKind.i64.wrap ((28:Int) + (IntKind.i64.wrap r1))) + (1088:Int))) + (2:Int))) + (IntKind.i64.wrap r2))).toNat) - ((IntKind.i64.wrap ((IntKind.i64.wrap ((IntKind.i64.wrap ((28:Int) + (IntKind.i64.wrap r1))) + (1088:Int))) + (2:Int))).toNat)) (List.drop ((IntKind.i64.wrap ((IntKind.i64.wrap ((IntKind.i64.wrap ((28:Int) + (IntKind.i64.wrap r1))) + (1088:Int))) + (2:Int))).toNat) x.1))], ())).bind fun r9 => (
        if 0 ≤ (IntKind.i64.wrap ((IntKind.i64.wrap ((IntKind.i64.wrap ((IntKind.i64.wrap ((28:Int) + (IntKind.i64.wrap r1))) + (1088:Int))) + (2:Int))) + (IntKind.i64.wrap r2))) then (
        if (IntKind.i64.wrap ((IntKind.i64.wrap ((IntKind.i64.wrap ((IntKind.i64.wrap ((28:Int) + (IntKind.i64.wrap r1))) + (1088:Int))) + (2:Int))) + (IntKind.i64.wrap r2))) ≤ (((List.length x.1) : Nat) : Int) then (
        (g_ref01_Join ([(List.take ((List.length x.1) - ((IntKind.i64.wrap ((IntKind.i64.wrap ((IntKind.i64.wrap ((IntKind.i64.wrap ((28:Int) + (IntKind.i64.wrap r1))) + (1088:Int))) + (2:Int))) + (IntKind.i64.wrap r2))).toNat)) (List.drop ((IntKind.i64.wrap ((IntKind.i64.wrap ((IntKind.i64.wrap ((IntKind.i64.wrap ((28:Int) + (IntKind.i64.wrap r1))) + (1088:Int))) + (2:Int))) + (IntKind.i64.wrap r2))).toNat) x.1))], ())).bind fun r10 => (
        (g_ref23_May (((List.getD (List.set [0] 0 (IntKind.i64.wrap (List.getD x.1 0 0))) 0 0), (List.getD (List.set [0] 0 (IntKind.i64.wrap (List.getD x.1 1 0))) 0 0), (List.getD (List.set [0] 0 (IntKind.u32.wrap r3)) 0 0), (List.getD (List.set [0] 0 (IntKind.u32.wrap r4)) 0 0), (List.getD (List.take 1 (List.set (List.set (List.replicate 2 0) 0 r5) 1 r6)) 0 0), (List.getD (List.drop 1 (List.set (List.set (List.replicate 2 0) 0 r5) 1 r6)) 0 0), r7, r8, r9, r10, ()), ())).bind fun r11 => (
        if (¬ (r11 = true)) then
          some (((List.getD [0] 0 0), (List.getD [0] 0 0), (List.getD [0] 0 0), (List.getD [0] 0 0), (List.getD (List.take 1 (List.replicate 2 0)) 0 0), (List.getD (List.drop 1 (List.replicate 2 0)) 0 0), [], [], [], [], ()), (230:Int))
        else
          some (((List.getD (List.set [0] 0 (IntKind.i64.wrap (List.getD x.1 0 0))) 0 0), (List.getD (List.set [0] 0 (IntKind.i64.wrap (List.getD x.1 1 0))) 0 0), (List.getD (List.set [0] 0 (IntKind.u32.wrap r3)) 0 0), (List.getD (List.set [0] 0 (IntKind.u32.wrap r4)) 0 0), (List.getD (List.take 1 (List.set (List.set (List.replicate 2 0) 0 r5) 1 r6)) 0 0), (List.getD (List.drop 1 (List.set (List.set (List.replicate 2 0) 0 r5) 1 r6)) 0 0), r7, r8, r9, r10, ()), (0:Int))))) else none) else none)) else none) else none) else none) else none)) else none) else none) else none) else none)) else none) else none) else none)) else none) else none)) else none) else none)) else none) else none)) else none) else none) else none) else none) else none) else none)) else none) else none) else none) else none)) else none) else none
theorem p_ref23_Get_eq (N : Nat) (x : Ds [.fsl (.int .u8)]) : funL p_ref23_Get_E p_ref23_Get_H (LT.nil) N Go.Proofs.Try.f27 p_ref23_Get_c [.fsl (.int .u8)] [.cat [.int .i64, .int .i64, .int .u32, .int .u32, .int .u64, .int .u64, .sl (.int .u8), .sl (.int .u8), .sl (.int .u8), .sl (.int .u8)], .int .i64] x = p_ref23_Get N x := by kernel_rfl
theorem p_ref23_Get_Eok (he_ref01_Number : SigOk Go.Proofs.Try.prog 41 ⟨[.sl (.int .u8)], [.int .u64], g_ref01_Number⟩) (he_ref01_Join : SigOk Go.Proofs.Try.prog 25 ⟨[.sls (.int .u8)], [.sl (.int .u8)], g_ref01_Join⟩) (he_ref23_May : SigOk Go.Proofs.Try.prog 15 ⟨[.cat [.int .i64, .int .i64, .int .u32, .int .u32, .int .u64, .int .u64, .sl (.int .u8), .sl (.int .u8), .sl (.int .u8), .sl (.int .u8)]], [.bool], g_ref23_May⟩) : p_ref23_Get_E.Ok Go.Proofs.Try.prog := AE.of_ok (all_cons ty3_ok (all_cons ty5_ok (all_cons ty22_ok (all_cons ty23_ok (all_cons ty32_ok (all_cons ty33_ok (all_cons ty35_ok (all_cons ty37_ok all_nil)))))))) (all_cons ⟨he_ref01_Number, enters_ref01_Number⟩ (all_cons ⟨he_ref01_Join, enters_ref01_Join⟩ (all_cons ⟨he_ref23_May, enters_ref23_May⟩ all_nil)))
theorem p_ref23_Get_ok (he_ref01_Number : SigOk Go.Proofs.Try.prog 41 ⟨[.sl (.int .u8)], [.int .u64], g_ref01_Number⟩) (he_ref01_Join : SigOk Go.Proofs.Try.prog 25 ⟨[.sls (.int .u8)], [.sl (.int .u8)], g_ref01_Join⟩) (he_ref23_May : SigOk Go.Proofs.Try.prog 15 ⟨[.cat [.int .i64, .int .i64, .int .u32, .int .u32, .int .u64, .int .u64, .sl (.int .u8), .sl (.int .u8), .sl (.int .u8), .sl (.int .u8)]], [.bool], g_ref23_May⟩) {g : Ds [.fsl (.int .u8)] → Option (Rs [.cat [.int .i64, .int .i64, .int .u32, .int .u32, .int .u64, .int .u64, .sl (.int .u8), .sl (.int .u8), .sl (.int .u8), .sl (.int .u8)], .int .i64])} (hg : ∀ x r, g x = some r → ∃ N, p_ref23_Get N x = some r) : SigOk Go.Proofs.Try.prog 27 ⟨[.fsl (.int .u8)], [.cat [.int .i64, .int .i64, .int .u32, .int .u32, .int .u64, .int .u64, .sl (.int .u8), .sl (.int .u8), .sl (.int .u8), .sl (.int .u8)], .int .i64], g⟩ :=
  fun_of (E := p_ref23_Get_E) (H := p_ref23_Get_H) (L := fun N => LT.nil) (c := p_ref23_Get_c) (ks := p_ref23_Get_ks) (rs := p_ref23_Get_rs) (F := p_ref23_Get) (p_ref23_Get_Eok he_ref01_Number he_ref01_Join he_ref23_May) mix Go.Proofs.Try.func27 (by kernel_rfl) (fun N => OkAll.nil) p_ref23_Get_eq hg

/-! livery/liverylaw23.CapsuleGets -/
noncomputable def p_law23_CapsuleGets_E : AE := AE.of [(5, ty5), (22, ty22), (23, ty23), (37, ty37)] [(8, ⟨[], [.bool], g_law23_live⟩), (25, ⟨[.sls (.int .u8)], [.sl (.int .u8)], g_ref01_Join⟩), (26, ⟨[.fsl (.int .u8)], [.cat [.int .i64, .int .i64, .int .u32, .int .u32, .int .u64, .int .u64, .sl (.int .u8), .sl (.int .u8), .sl (.int .u8), .sl (.int .u8)], .int .i64], g_capsule_Get⟩), (27, ⟨[.fsl (.int .u8)], [.cat [.int .i64, .int .i64, .int .u32, .int .u32, .int .u64, .int .u64, .sl (.int .u8), .sl (.int .u8), .sl (.int .u8), .sl (.int .u8)], .int .i64], g_ref23_Get⟩), (11, ⟨[.sl (.int .u8), .sl (.int .u8)], [.bool], g_ref01_Equal⟩), (24, ⟨[.cat [.int .i64, .int .i64, .int .u32, .int .u32, .int .u64, .int .u64, .sl (.int .u8), .sl (.int .u8), .sl (.int .u8), .sl (.int .u8)], .cat [.int .i64, .int .i64, .int .u32, .int .u32, .int .u64, .int .u64, .sl (.int .u8), .sl (.int .u8), .sl (.int .u8), .sl (.int .u8)]], [.bool], g_ref23_Same⟩)]
noncomputable def p_law23_CapsuleGets_H : Hints := [(9, [3, 4, 5, 6, 7, 35, 36]), (2000000, [4, 5, 6, 7]), (2000001, [3, 4, 5, 6, 7, 35, 36]), (3000000, [2])]
noncomputable def p_law23_CapsuleGets_c : Code := (Go.Proofs.Try.f6).body.getD .skip
noncomputable def p_law23_CapsuleGets_l9_S : Shape where
  h := { tmps := [.any, .any, .any, .sc (.vec 0 none 1), .sc (.ptr 1 0 false), .sc (.int .i64), .sc (.ptr 2 0 false), .sc (.int .i64), .any, .any, .any, .any, .any, .any, .any, .any, .any, .any, .any, .any, .any, .any, .any, .any, .any, .any, .any, .any, .any, .any, .any, .any, .any, .any, .any, .sc (.int .i64), .sc (.int .i64), .any, .any, .any, .any, .any, .any, .any, .any, .any, .any, .any, .any, .any, .any, .any, .any, .any], mem := [.live [.xs (.int .u8) none] (.own), .live [.one (.int .i64), .one (.int .i64), .one (.int .u32), .one (.int .u32), .one (.int .u64), .one (.int .u64), .one (.vec 3 none 1), .one (.vec 4 none 1), .one (.vec 5 none 1), .one (.vec 6 none 1)] (.own), .live [.one (.int .i64), .one (.int .i64), .one (.int .u32), .one (.int .u32), .one (.int .u64), .one (.int .u64), .one (.vec 7 none 1), .one (.vec 8 none 1), .one (.vec 9 none 1), .one (.vec 10 none 1)] (.own), .live [.xs (.int .u8) none] (.own), .live [.xs (.int .u8) none] (.own), .live [.xs (.int .u8) none] (.own), .live [.xs (.int .u8) none] (.own), .live [.xs (.int .u8) none] (.own), .live [.xs (.int .u8) none] (.own), .live [.xs (.int .u8) none] (.own), .live [.xs (.int .u8) none] (.own)] }
  ks := [.nat, .int, .int, .int, .int, .nat, .xs, .int, .int, .int, .int, .int, .int, .nat, .nat, .nat, .nat, .int, .int, .int, .int, .int, .int, .nat, .nat, .nat, .nat, .nat, .xs, .nat, .xs, .nat, .xs, .nat, .xs, .nat, .xs, .nat, .xs, .nat, .xs, .nat, .xs]
  st := fun x => { tmps := [.one .any, .one .any, .one .any, .one (.sc (.vec 0 x.1 1)), .one (.sc (.ptr 1 0 none)), .one (.sc (.int .i64 x.2.1)), .one (.sc (.ptr 2 0 none)), .one (.sc (.int .i64 x.2.2.1)), .one .any, .one .any, .one .any, .one .any, .one .any, .one .any, .one .any, .one .any, .one .any, .one .any, .one .any, .one .any, .one .any, .one .any, .one .any, .one .any, .one .any, .one .any, .one .any, .one .any, .one .any, .one .any, .one .any, .one .any, .one .any, .one .any, .one .any, .one (.sc (.int .i64 x.2.2.2.1)), .one (.sc (.int .i64 x.2.2.2.2.1)), .one .any, .one .any, .one .any, .one .any, .one .any, .one .any, .one .any, .one .any, .one .any, .one .any, .one .any, .one .any, .one .any, .one .any, .one .any, .one .any, .one .any], mem := [.live { segs := [.xs (.int .u8) x.2.2.2.2.2.1 x.2.2.2.2.2.2.1], own := .own }, .live { segs := [.one (.int .i64 x.2.2.2.2.2.2.2.1), .one (.int .i64 x.2.2.2.2.2.2.2.2.1), .one (.int .u32 x.2.2.2.2.2.2.2.2.2.1), .one (.int .u32 x.2.2.2.2.2.2.2.2.2.2.1), .one (.int .u64 x.2.2.2.2.2.2.2.2.2.2.2.1), .one (.int .u64 x.2.2.2.2.2.2.2.2.2.2.2.2.1), .one (.vec 3 x.2.2.2.2.2.2.2.2.2.2.2.2.2.1 1), .one (.vec 4 x.2.2.2.2.2.2.2.2.2.2.2.2.2.2.1 1), .one (.vec 5 x.2.2.2.2.2.2.2.2.2.2.2.2.2.2.2.1 1), .one (.vec 6 x.2.2.2.2.2.2.2.2.2.2.2.2.2.2.2.2.1 1)], own := .own }, .live { segs := [.one (.int .i64 x.2.2.2.2.2.2.2.2.2.2.2.2.2.2.2.2.2.1), .one (.int .i64 x.2.2.2.2.2.2.2.2.2.2.2.2.2.2.2.2.2.2.1), .one (.int .u32 x.2.2.2.2.2.2.2.2.2.2.2.2.2.2.2.2.2.2.2.1), .one (.int .u32 x.2.2.2.2.2.2.2.2.2.2.2.2.2.2.2.2.2.2.2.2.1), .one (.int .u64 x.2.2.2.2.2.2.2.2.2.2.2.2.2.2.2.2.2.2.2.2.2.1), .one (.int .u64 x.2.2.2.2.2.2.2.2.2.2.2.2.2.2.2.2.2.2.2.2.2.2.1), .one (.vec 7 x.2.2.2.2.2.2.2.2.2.2.2.2.2.2.2.2.2.2.2.2.2.2.2.1 1), .one (.vec 8 x.2.2.2.2.2.2.2.2.2.2.2.2.2.2.2.2.2.2.2.2.2.2.2.2.1 1), .one (.vec 9 x.2.2.2.2.2.2.2.2.2.2.2.2.2.2.2.2.2.2.2.2.2.2.2.2.2.1 1), .one (.vec 10 x.2.2.2.2.2.2.2.2.2.2.2.2.2.2.2.2.2.2.2.2.2.2.2.2.2.2.1 1)], own := .own }, .live { segs := [.xs (.int .u8) x.2.2.2.2.2.2.2.2.2.2.2.2.2.2.2.2.2.2.2.2.2.2.2.2.2.2.2.1 x.2.2.2.2.2.2.2.2.2.2.2.2.2.2.2.2.2.2.2.2.2.2.2.2.2.2.2.2.1], own := .own }, .live { segs := [.xs (.int .u8) x.2.2.2.2.2.2.2.2.2.2.2.2.2.2.2.2.2.2.2.2.2.2.2.2.2.2.2.2.2.1 x.2.2.2.2.2.2.2.2.2.2.2.2.2.2.2.2.2.2.2.2.2.2.2.2.2.2.2.2.2.2.1], own := .own }, .live { segs := [.xs (.int .u8) x.2.2.2.2.2.2.2.2.2.2.2.2.2.2.2.2.2.2.2.2.2.2.2.2.2.2.2.2.2.2.2.1 x.2.2.2.2.2.2.2.2.2.2.2.2.2.2.2.2.2.2.2.2.2.2.2.2.2.2.2.2.2.2.2.2.1], own := .own }, .live { segs := [.xs (.int .u8) x.2.2.2.2.2.2.2.2.2.2.2.2.2.2.2.2.2.2.2.2.2.2.2.2.2.2.2.2.2.2.2.2.2.1 x.2.2.2.2.2.2.2.2.2.2.2.2.2.2.2.2.2.2.2.2.2.2.2.2.2.2.2.2.2.2.2.2.2.2.1], own := .own }, .live { segs := [.xs (.int .u8) x.2.2.2.2.2.2.2.2.2.2.2.2.2.2.2.2.2.2.2.2.2.2.2.2.2.2.2.2.2.2.2.2.2.2.2.1 x.2.2.2.2.2.2.2.2.2.2.2.2.2.2.2.2.2.2.2.2.2.2.2.2.2.2.2.2.2.2.2.2.2.2.2.2.1], own := .own }, .live { segs := [.xs (.int .u8) x.2.2.2.2.2.2.2.2.2.2.2.2.2.2.2.2.2.2.2.2.2.2.2.2.2.2.2.2.2.2.2.2.2.2.2.2.2.1 x.2.2.2.2.2.2.2.2.2.2.2.2.2.2.2.2.2.2.2.2.2.2.2.2.2.2.2.2.2.2.2.2.2.2.2.2.2.2.1], own := .own }, .live { segs := [.xs (.int .u8) x.2.2.2.2.2.2.2.2.2.2.2.2.2.2.2.2.2.2.2.2.2.2.2.2.2.2.2.2.2.2.2.2.2.2.2.2.2.2.2.1 x.2.2.2.2.2.2.2.2.2.2.2.2.2.2.2.2.2.2.2.2.2.2.2.2.2.2.2.2.2.2.2.2.2.2.2.2.2.2.2.2.1], own := .own }, .live { segs := [.xs (.int .u8) x.2.2.2.2.2.2.2.2.2.2.2.2.2.2.2.2.2.2.2.2.2.2.2.2.2.2.2.2.2.2.2.2.2.2.2.2.2.2.2.2.2.1 x.2.2.2.2.2.2.2.2.2.2.2.2.2.2.2.2.2.2.2.2.2.2.2.2.2.2.2.2.2.2.2.2.2.2.2.2.2.2.2.2.2.2.1], own := .own }] }
noncomputable def p_law23_CapsuleGets_l9_F (N : Nat) (β : Type) (x : (Nat × Int × Int × Int × Int × Nat × List Int × Int × Int × Int × Int × Int × Int × Nat × Nat × Nat × Nat × Int × Int × Int × Int × Int × Int × Nat × Nat × Nat × Nat × Nat × List Int × Nat × List Int × Nat × List Int × Nat × List Int × Nat × List Int × Nat × List Int × Nat × List Int × Nat × List Int × Unit)) (kn : (Nat × Int × Int × Int × Int × Nat × List Int × Int × Int × Int × Int × Int × Int × Nat × Nat × Nat × Nat × Int × Int × Int × Int × Int × Int × Nat × Nat × Nat × Nat × Nat × List Int × Nat × List Int × Nat × List Int × Nat × List Int × Nat × List Int × Nat × List Int × Nat × List Int × Nat × List Int × Unit) → Option β) (ke : ((Int × Int × Int × Int × Int × Int × Int × Int × Nat × Nat × Nat × Nat × Int × Int × Int × Int × Int × Int × Nat × Nat × Nat × Nat × Nat × List Int × Nat × List Int × Nat × List Int × Nat × List Int × Nat × List Int × Nat × List Int × Nat × List Int × Nat × List Int × Unit)) → Option β) : Option β :=
  if (x.2.2.2.2.1 < x.2.2.2.1) then
    if 0 ≤ x.2.2.2.2.1 then (
    if x.2.2.2.2.1 < ((x.1 : Nat) : Int) then (
    if (x.2.2.2.2.1.toNat) < x.2.2.2.2.2.1 then (
    if 0 ≤ x.2.2.2.2.1 then (
    if x.2.2.2.2.1 < ((x.1 : Nat) : Int) then (
    if (x.2.2.2.2.1.toNat) < x.2.2.2.2.2.1 then (
    kn (x.1, x.2.1, x.2.2.1, x.2.2.2.1, (IntKind.i64.wrap (x.2.2.2.2.1 + (1:Int))), x.2.2.2.2.2.1, (List.set x.2.2.2.2.2.2.1 (x.2.2.2.2.1.toNat) (IntKind.u8.wrap ((List.getD x.2.2.2.2.2.2.1 (x.2.2.2.2.1.toNat) 0) + (1:Int)))), x.2.2.2.2.2.2.2.1, x.2.2.2.2.2.2.2.2.1, x.2.2.2.2.2.2.2.2.2.1, x.2.2.2.2.2.2.2.2.2.2.1, x.2.2.2.2.2.2.2.2.2.2.2.1, x.2.2.2.2.2.2.2.2.2.2.2.2.1, x.2.2.2.2.2.2.2.2.2.2.2.2.2.1, x.2.2.2.2.2.2.2.2.2.2.2.2.2.2.1, x.2.2.2.2.2.2.2.2.2.2.2.2.2.2.2.1, x.2.2.2.2.2.2.2.2.2.2.2.2.2.2.2.2.1, x.2.2.2.2.2.2.2.2.2.2.2.2.2.2.2.2.2.1, x.2.2.2.2.2.2.2.2.2.2.2.2.2.2.2.2.2.2.1, x.2.2.2.2.2.2.2.2.2.2.2.2.2.2.2.2.2.2.2.1, x.2.2.2.2.2.2.2.2.2.2.2.2.2.2.2.2.2.2.2.2.1, x.2.2.2.2.2.2.2.2.2.2.2.2.2.2.2.2.2.2.2.2.2.1, x.2.2.2.2.2.2.2.2.2.2.2.2.2.2.2.2.2.2.2.2.2.2.1, x.2.2.2.2.2.2.2.2.2.2.2.2.2.2.2.2.2.2.2.2.2.2.2.1, x.2.2.2.2.2.2.2.2.2.2.2.2.2.2.2.2.2.2.2.2.2.2.2.2.1, x.2.2.2.2.2.2.2.2.2.2.2.2.2.2.2.2.2.2.2.2.2.2.2.2.2.1, x.2.2.2.2.2.2.2.2.2.2.2.2.2.2.2.2.2.2.2.2.2.2.2.2.2.2.1, x.2.2.2.2.2.2.2.2.2.2.2.2.2.2.2.2.2.2.2.2.2.2.2.2.2.2.2.1, x.2.2.2.2.2.2.2.2.2.2.2.2.2.2.2.2.2.2.2.2.2.2.2.2.2.2.2.2.1, x.2.2.2.2.2.2.2.2.2.2.2.2.2.2.2.2.2.2.2.2.2.2.2.2.2.2.2.2.2.1, x.2.2.2.2.2.2.2.2.2.2.2.2.2.2.2.2.2.2.2.2.2.2.2.2.2.2.2.2.2.2.1, x.2.2.2.2.2.2.2.2.2.2.2.2.2.2.2.2.2.2.2.2.2.2.2.2.2.2.2.2.2.2.2.1, x.2.2.2.2.2.2.2.2.2.2.2.2.2.2.2.2.2.2.2.2.2.2.2.2.2.2.2.2.2.2.2.2.1, x.2.2.2.2.2.2.2.2.2.2.2.2.2.2.2.2.2.2.2.2.2.2.2.2.2.2.2.2.2.2.2.2.2.1, x.2.2.2.2.2.2.2.2.2.2.2.2.2.2.2.2.2.2.2.2.2.2.2.2.2.2.2.2.2.2.2.2.2.2.1, x.2.2.2.2.2.2.2.2.2.2.2.2.2.2.2.2.2.2.2.2.2.2.2.2.2.2.2.2.2.2.2.2.2.2.2.1, x.2.2.2.2.2.2.2.2.2.2.2.2.2.2.2.2.2.2.2.2.2.2.2.2.2.2.2.2.2.2.2.2.2.2.2.2.1, x.2.2.2.2.2.2.2.2.2.2.2.2.2.2.2.2.2.2.2.2.2.2.2.2.2.2.2.2.2.2.2.2.2.2.2.2.2.1, x.2.2.2.2.2.2.2.2.2.2.2.2.2.2.2.2.2.2.2.2.2.2.2.2.2.2.2.2.2.2.2.2.2.2.2.2.2.2.1, x.2.2.2.2.2.2.2.2.2.2.2.2.2.2.2.2.2.2.2.2.2.2.2.2.2.2.2.2.2.2.2.2.2.2.2.2.2.2.2.1, x.2.2.2.2.2.2.2.2.2.2.2.2.2.2.2.2.2.2.2.2.2.2.2.2.2.2.2.2.2.2.2.2.2.2.2.2.2.2.2.2.1, x.2.2.2.2.2.2.2.2.2.2.2.2.2.2.2.2.2.2.2.2.2.2.2.2.2.2.2.2.2.2.2.2.2.2.2.2.2.2.2.2.2.1, x.2.2.2.2.2.2.2.2.2.2.2.2.2.2.2.2.2.2.2.2.2.2.2.2.2.2.2.2.2.2.2.2.2.2.2.2.2.2.2.2.2.2.1, ())) else none) else none) else none) else none) else none) else none
  else
    ke (x.2.1, x.2.2.1, x.2.2.2.2.2.2.2.1, x.2.2.2.2.2.2.2.2.1, x.2.2.2.2.2.2.2.2.2.1, x.2.2.2.2.2.2.2.2.2.2.1, x.2.2.2.2.2.2.2.2.2.2.2.1, x.2.2.2.2.2.2.2.2.2.2.2.2.1, x.2.2.2.2.2.2.2.2.2.2.2.2.2.1, x.2.2.2.2.2.2.2.2.2.2.2.2.2.2.1, x.2.2.2.2.2.2.2.2.2.2.2.2.2.2.2.1, x.2.2.2.2.2.2.2.2.2.2.2.2.2.2.2.2.1, x.2.2.2.2.2.2.2.2.2.2.2.2.2.2.2.2.2.1, x.2.2.2.2.2.2.2.2.2.2.2.2.2.2.2.2.2.2.1, x.2.2.2.2.2.2.2.2.2.2.2.2.2.2.2.2.2.2.2.1, x.2.2.2.2.2.2.2.2.2.2.2.2.2.2.2.2.2.2.2.2.1, x.2.2.2.2.2.2.2.2.2.2.2.2.2.2.2.2.2.2.2.2.2.1, x.2.2.2.2.2.2.2.2.2.2.2.2.2.2.2.2.2.2.2.2.2.2.1, x.2.2.2.2.2.2.2.2.2.2.2.2.2.2.2.2.2.2.2.2.2.2.2.1, x.2.2.2.2.2.2.2.2.2.2.2.2.2.2.2.2.2.2.2.2.2.2.2.2.1, x.2.2.2.2.2.2.2.2.2.2.2.2.2.2.2.2.2.2.2.2.2.2.2.2.2.1, x.2.2.2.2.2.2.2.2.2.2.2.2.2.2.2.2.2.2.2.2.2.2.2.2.2.2.1, x.2.2.2.2.2.2.2.2.2.2.2.2.2.2.2.2.2.2.2.2.2.2.2.2.2.2.2.1, x.2.2.2.2.2.2.2.2.2.2.2.2.2.2.2.2.2.2.2.2.2.2.2.2.2.2.2.2.1, x.2.2.2.2.2.2.2.2.2.2.2.2.2.2.2.2.2.2.2.2.2.2.2.2.2.2.2.2.2.1, x.2.2.2.2.2.2.2.2.2.2.2.2.2.2.2.2.2.2.2.2.2.2.2.2.2.2.2.2.2.2.1, x.2.2.2.2.2.2.2.2.2.2.2.2.2.2.2.2.2.2.2.2.2.2.2.2.2.2.2.2.2.2.2.1, x.2.2.2.2.2.2.2.2.2.2.2.2.2.2.2.2.2.2.2.2.2.2.2.2.2.2.2.2.2.2.2.2.1, x.2.2.2.2.2.2.2.2.2.2.2.2.2.2.2.2.2.2.2.2.2.2.2.2.2.2.2.2.2.2.2.2.2.1, x.2.2.2.2.2.2.2.2.2.2.2.2.2.2.2.2.2.2.2.2.2.2.2.2.2.2.2.2.2.2.2.2.2.2.1, x.2.2.2.2.2.2.2.2.2.2.2.2.2.2.2.2.2.2.2.2.2.2.2.2.2.2.2.2.2.2.2.2.2.2.2.1, x.2.2.2.2.2.2.2.2.2.2.2.2.2.2.2.2.2.2.2.2.2.2.2.2.2.2.2.2.2.2.2.2.2.2.2.2.1, x.2.2.2.2.2.2.2.2.2.2.2.2.2.2.2.2.2.2.2.2.2.2.2.2.2.2.2.2.2.2.2.2.2.2.2.2.2.1, x.2.2.2.2.2.2.2.2.2.2.2.2.2.2.2.2.2.2.2.2.2.2.2.2.2.2.2.2.2.2.2.2.2.2.2.2.2.2.1, x.2.2.2.2.2.2.2.2.2.2.2.2.2.2.2.2.2.2.2.2.2.2.2.2.2.2.2.2.2.2.2.2.2.2.2.2.2.2.2.1, x.2.2.2.2.2.2.2.2.2.2.2.2.2.2.2.2.2.2.2.2.2.2.2.2.2.2.2.2.2.2.2.2.2.2.2.2.2.2.2.2.1, x.2.2.2.2.2.2.2.2.2.2.2.2.2.2.2.2.2.2.2.2.2.2.2.2.2.2.2.2.2.2.2.2.2.2.2.2.2.2.2.2.2.1, x.2.2.2.2.2.2.2.2.2.2.2.2.2.2.2.2.2.2.2.2.2.2.2.2.2.2.2.2.2.2.2.2.2.2.2.2.2.2.2.2.2.2.1, ())
noncomputable def p_law23_CapsuleGets_l9_go : Go' ((Int × Int × Int × Int × Int × Int × Int × Int × Nat × Nat × Nat × Nat × Int × Int × Int × Int × Int × Int × Nat × Nat × Nat × Nat × Nat × List Int × Nat × List Int × Nat × List Int × Nat × List Int × Nat × List Int × Nat × List Int × Nat × List Int × Nat × List Int × Unit)) := fun y K => K (.exit 0) { tmps := [.one .any, .one .any, .one .any, .one .any, .one (.sc (.ptr 0 0 none)), .one (.sc (.int .i64 y.1)), .one (.sc (.ptr 1 0 none)), .one (.sc (.int .i64 y.2.1)), .one .any, .one .any, .one .any, .one .any, .one .any, .one .any, .one .any, .one .any, .one .any, .one .any, .one .any, .one .any, .one .any, .one .any, .one .any, .one .any, .one .any, .one .any, .one .any, .one .any, .one .any, .one .any, .one .any, .one .any, .one .any, .one .any, .one .any, .one .any, .one .any, .one .any, .one .any, .one .any, .one .any, .one .any, .one .any, .one .any, .one .any, .one .any, .one .any, .one .any, .one .any, .one .any, .one .any, .one .any, .one .any, .one .any], mem := [.live { segs := [.one (.int .i64 y.2.2.1), .one (.int .i64 y.2.2.2.1), .one (.int .u32 y.2.2.2.2.1), .one (.int .u32 y.2.2.2.2.2.1), .one (.int .u64 y.2.2.2.2.2.2.1), .one (.int .u64 y.2.2.2.2.2.2.2.1), .one (.vec 2 y.2.2.2.2.2.2.2.2.1 1), .one (.vec 3 y.2.2.2.2.2.2.2.2.2.1 1), .one (.vec 4 y.2.2.2.2.2.2.2.2.2.2.1 1), .one (.vec 5 y.2.2.2.2.2.2.2.2.2.2.2.1 1)], own := .own }, .live { segs := [.one (.int .i64 y.2.2.2.2.2.2.2.2.2.2.2.2.1), .one (.int .i64 y.2.2.2.2.2.2.2.2.2.2.2.2.2.1), .one (.int .u32 y.2.2.2.2.2.2.2.2.2.2.2.2.2.2.1), .one (.int .u32 y.2.2.2.2.2.2.2.2.2.2.2.2.2.2.2.1), .one (.int .u64 y.2.2.2.2.2.2.2.2.2.2.2.2.2.2.2.2.1), .one (.int .u64 y.2.2.2.2.2.2.2.2.2.2.2.2.2.2.2.2.2.1), .one (.vec 6 y.2.2.2.2.2.2.2.2.2.2.2.2.2.2.2.2.2.2.1 1), .one (.vec 7 y.2.2.2.2.2.2.2.2.2.2.2.2.2.2.2.2.2.2.2.1 1), .one (.vec 8 y.2.2.2.2.2.2.2.2.2.2.2.2.2.2.2.2.2.2.2.2.1 1), .one (.vec 9 y.2.2.2.2.2.2.2.2.2.2.2.2.2.2.2.2.2.2.2.2.2.1 1)], own := .own }, .live { segs := [.xs (.int .u8) y.2.2.2.2.2.2.2.2.2.2.2.2.2.2.2.2.2.2.2.2.2.2.1 y.2.2.2.2.2.2.2.2.2.2.2.2.2.2.2.2.2.2.2.2.2.2.2.1], own := .own }, .live { segs := [.xs (.int .u8) y.2.2.2.2.2.2.2.2.2.2.2.2.2.2.2.2.2.2.2.2.2.2.2.2.1 y.2.2.2.2.2.2.2.2.2.2.2.2.2.2.2.2.2.2.2.2.2.2.2.2.2.1], own := .own }, .live { segs := [.xs (.int .u8) y.2.2.2.2.2.2.2.2.2.2.2.2.2.2.2.2.2.2.2.2.2.2.2.2.2.2.1 y.2.2.2.2.2.2.2.2.2.2.2.2.2.2.2.2.2.2.2.2.2.2.2.2.2.2.2.1], own := .own }, .live { segs := [.xs (.int .u8) y.2.2.2.2.2.2.2.2.2.2.2.2.2.2.2.2.2.2.2.2.2.2.2.2.2.2.2.2.1 y.2.2.2.2.2.2.2.2.2.2.2.2.2.2.2.2.2.2.2.2.2.2.2.2.2.2.2.2.2.1], own := .own }, .live { segs := [.xs (.int .u8) y.2.2.2.2.2.2.2.2.2.2.2.2.2.2.2.2.2.2.2.2.2.2.2.2.2.2.2.2.2.2.1 y.2.2.2.2.2.2.2.2.2.2.2.2.2.2.2.2.2.2.2.2.2.2.2.2.2.2.2.2.2.2.2.1], own := .own }, .live { segs := [.xs (.int .u8) y.2.2.2.2.2.2.2.2.2.2.2.2.2.2.2.2.2.2.2.2.2.2.2.2.2.2.2.2.2.2.2.2.1 y.2.2.2.2.2.2.2.2.2.2.2.2.2.2.2.2.2.2.2.2.2.2.2.2.2.2.2.2.2.2.2.2.2.1], own := .own }, .live { segs := [.xs (.int .u8) y.2.2.2.2.2.2.2.2.2.2.2.2.2.2.2.2.2.2.2.2.2.2.2.2.2.2.2.2.2.2.2.2.2.2.1 y.2.2.2.2.2.2.2.2.2.2.2.2.2.2.2.2.2.2.2.2.2.2.2.2.2.2.2.2.2.2.2.2.2.2.2.1], own := .own }, .live { segs := [.xs (.int .u8) y.2.2.2.2.2.2.2.2.2.2.2.2.2.2.2.2.2.2.2.2.2.2.2.2.2.2.2.2.2.2.2.2.2.2.2.2.1 y.2.2.2.2.2.2.2.2.2.2.2.2.2.2.2.2.2.2.2.2.2.2.2.2.2.2.2.2.2.2.2.2.2.2.2.2.2.1], own := .own }] }
noncomputable def p_law23_CapsuleGets_l9_L (N : Nat) : LT := upd (LT.nil) 9 (loopE p_law23_CapsuleGets_l9_S N (p_law23_CapsuleGets_l9_F N) p_law23_CapsuleGets_l9_go)
theorem p_law23_CapsuleGets_l9_ok (N : Nat) : OkAll p_law23_CapsuleGets_E p_law23_CapsuleGets_H N (p_law23_CapsuleGets_l9_L N) (subs p_law23_CapsuleGets_c) :=
  addLoop (c := theLoop 9 p_law23_CapsuleGets_c) (OkAll.nil) (by kernel_rfl) (fun x => by kernel_rfl) (fun β x kn ke => by kernel_rfl)
abbrev p_law23_CapsuleGets_ks : List Kd := [.sl (.int .u8)]
abbrev p_law23_CapsuleGets_rs : List Kd := [.bool]
noncomputable def p_law23_CapsuleGets (N : Nat) (x : List Int × Unit) : Option (Bool) :=
  (g_law23_live (())).bind fun r1 => (
  if (¬ (r1 = true)) then
    (g_law23_live (())).bind fun r2 => (
    some (decide (r2 = true)))
  else
    if ((((List.length x.1) : Nat) : Int) > (90000:Int)) then
      (g_law23_live (())).bind fun r3 => (
      some (decide (r3 = true)))
    else
      (g_ref01_Join ([x.1], ())).bind fun r4 => (
      (g_capsule_Get (r4, ())).bind fun r5 => (
      (g_ref23_Get (x.1, ())).bind fun r6 => (
      (g_ref01_Equal (r4, x.1, ())).bind fun r7 => (
      if (¬ (r7 = true)) then
        some false
      else
        iter (p_law23_CapsuleGets_l9_F N) N ((List.length r4), r5.2, r6.2, (((List.length r4) : Nat) : Int), (0:Int), (List.length r4), r4, r5.1.1, r5.1.2.1, r5.1.2.2.1, r5.1.2.2.2.1, r5.1.2.2.2.2.1, r5.1.2.2.2.2.2.1, (List.length r5.1.2.2.2.2.2.2.1), (List.length r5.1.2.2.2.2.2.2.2.1), (List.length r5.1.2.2.2.2.2.2.2.2.1), (List.length r5.1.2.2.2.2.2.2.2.2.2.1), r6.1.1, r6.1.2.1, r6.1.2.2.1, r6.1.2.2.2.1, r6.1.2.2.2.2.1, r6.1.2.2.2.2.2.1, (List.length r6.1.2.2.2.2.2.2.1), (List.length r6.1.2.2.2.2.2.2.2.1), (List.length r6.1.2.2.2.2.2.2.2.2.1), (List.length r6.1.2.2.2.2.2.2.2.2.2.1), (List.length r5.1.2.2.2.2.2.2.1), r5.1.2.2.2.2.2.2.1, (List.length r5.1.2.2.2.2.2.2.2.1), r5.1.2.2.2.2.2.2.2.1, (List.length r5.1.2.2.2.2.2.2.2.2.1), r5.1.2.2.2.2.2.2.2.2.1, (List.length r5.1.2.2.2.2.2.2.2.2.2.1), r5.1.2.2.2.2.2.2.2.2.2.1, (List.length r6.1.2.2.2.2.2.2.1), r6.1.2.2.2.2.2.2.1, (List.length r6.1.2.2.2.2.2.2.2.1), r6.1.2.2.2.2.2.2.2.1, (List.length r6.1.2.2.2.2.2.2.2.2.1), r6.1.2.2.2.2.2.2.2.2.1, (List.length r6.1.2.2.2.2.2.2.2.2.2.1), r6.1.2.2.2.2.2.2.2.2.2.1, ()) fun y8 => (
        (g_ref23_Same ((y8.2.2.1, y8.2.2.2.1, y8.2.2.2.2.1, y8.2.2.2.2.2.1, y8.2.2.2.2.2.2.1, y8.2.2.2.2.2.2.2.1, y8.2.2.2.2.2.2.2.2.2.2.2.2.2.2.2.2.2.2.2.2.2.2.2.1, y8.2.2.2.2.2.2.2.2.2.2.2.2.2.2.2.2.2.2.2.2.2.2.2.2.2.1, y8.2.2.2.2.2.2.2.2.2.2.2.2.2.2.2.2.2.2.2.2.2.2.2.2.2.2.2.1, y8.2.2.2.2.2.2.2.2.2.2.2.2.2.2.2.2.2.2.2.2.2.2.2.2.2.2.2.2.2.1, ()), (y8.2.2.2.2.2.2.2.2.2.2.2.2.1, y8.2.2.2.2.2.2.2.2.2.2.2.2.2.1, y8.2.2.2.2.2.2.2.2.2.2.2.2.2.2.1, y8.2.2.2.2.2.2.2.2.2.2.2.2.2.2.2.1, y8.2.2.2.2.2.2.2.2.2.2.2.2.2.2.2.2.1, y8.2.2.2.2.2.2.2.2.2.2.2.2.2.2.2.2.2.1, y8.2.2.2.2.2.2.2.2.2.2.2.2.2.2.2.2.2.2.2.2.2.2.2.2.2.2.2.2.2.2.2.1, y8.2.2.2.2.2.2.2.2.2.2.2.2.2.2.2.2.2.2.2.2.2.2.2.2.2.2.2.2.2.2.2.2.2.1, y8.2.2.2.2.2.2.2.2.2.2.2.2.2.2.2.2.2.2.2.2.2.2.2.2.2.2.2.2.2.2.2.2.2.2.2.1, y8.2.2.2.2.2.2.2.2.2.2.2.2.2.2.2.2.2.2.2.2.2.2.2.2.2.2.2.2.2.2.2.2.2.2.2.2.2.1, ()), ())).bind fun r9 => (
        if (r9 = true) then
          some (decide (y8.1 = y8.2.1))
        else
          some false)))))))
theorem p_law23_CapsuleGets_eq (N : Nat) (x : Ds [.sl (.int .u8)]) : funL p_law23_CapsuleGets_E p_law23_CapsuleGets_H (p_law23_CapsuleGets_l9_L N) N Go.Proofs.Try.f6 p_law23_CapsuleGets_c [.sl (.int .u8)] [.bool] x = p_law23_CapsuleGets N x := by kernel_rfl
theorem p_law23_CapsuleGets_Eok (he_law23_live : SigOk Go.Proofs.Try.prog 8 ⟨[], [.bool], g_law23_live⟩) (he_ref01_Join : SigOk Go.Proofs.Try.prog 25 ⟨[.sls (.int .u8)], [.sl (.int .u8)], g_ref01_Join⟩) (he_capsule_Get : SigOk Go.Proofs.Try.prog 26 ⟨[.fsl (.int .u8)], [.cat [.int .i64, .int .i64, .int .u32, .int .u32, .int .u64, .int .u64, .sl (.int .u8), .sl (.int .u8), .sl (.int .u8), .sl (.int .u8)], .int .i64], g_capsule_Get⟩) (he_ref23_Get : SigOk Go.Proofs.Try.prog 27 ⟨[.fsl (.int .u8)], [.cat [.int .i64, .int .i64, .int .u32, .int .u32, .int .u64, .int .u64, .sl (.int .u8), .sl (.int .u8), .sl (.int .u8), .sl (.int .u8)], .int .i64], g_ref23_Get⟩) (he_ref01_Equal : SigOk Go.Proofs.Try.prog 11 ⟨[.sl (.int .u8), .sl (.int .u8)], [.bool], g_ref01_Equal⟩) (he_ref23_Same : SigOk Go.Proofs.Try.prog 24 ⟨[.cat [.int .i64, .int .i64, .int .u32, .int .u32, .int .u64, .int .u64, .sl (.int .u8), .sl (.int .u8), .sl (.int .u8), .sl (.int .u8)], .cat [.int .i64, .int .i64, .int .u32, .int .u32, .int .u64, .int .u64, .sl (.int .u8), .sl (.int .u8), .sl (.int .u8), .sl (.int .u8)]], [.bool], g_ref23_Same⟩) : p_law23_CapsuleGets_E.Ok Go.Proofs.Try.prog := AE.of_ok (all_cons ty5_ok (all_cons ty22_ok (all_cons ty23_ok (all_cons ty37_ok all_nil)))) (all_cons ⟨he_law23_live, enters_law23_live⟩ (all_cons ⟨he_ref01_Join, enters_ref01_Join⟩ (all_cons ⟨he_capsule_Get, enters_capsule_Get⟩ (all_cons ⟨he_ref23_Get, enters_ref23_Get⟩ (all_cons ⟨he_ref01_Equal, enters_ref01_Equal⟩ (all_cons ⟨he_ref23_Same, enters_ref23_Same⟩ all_nil))))))
theorem p_law23_CapsuleGets_ok (he_law23_live : SigOk Go.Proofs.Try.prog 8 ⟨[], [.bool], g_law23_live⟩) (he_ref01_Join : SigOk Go.Proofs.Try.prog 25 ⟨[.sls (.int .u8)], [.sl (.int .u8)], g_ref01_Join⟩) (he_capsule_Get : SigOk Go.Proofs.Try.prog 26 ⟨[.fsl (.int .u8)], [.cat [.int .i64, .int .i64, .int .u32, .int .u32, .int .u64, .int .u64, .sl (.int .u8), .sl (.int .u8), .sl (.int .u8), .sl (.int .u8)], .int .i64], g_capsule_Get⟩) (he_ref23_Get : SigOk Go.Proofs.Try.prog 27 ⟨[.fsl (.int .u8)], [.cat [.int .i64, .int .i64, .int .u32, .int .u32, .int .u64, .int .u64, .sl (.int .u8), .sl (.int .u8), .sl (.int .u8), .sl (.int .u8)], .int .i64], g_ref23_Get⟩) (he_ref01_Equal : SigOk Go.Proofs.Try.prog 11 ⟨[.sl (.int .u8), .sl (.int .u8)], [.bool], g_ref01_Equal⟩) (he_ref23_Same : SigOk Go.Proofs.Try.prog 24 ⟨[.cat [.int .i64, .int .i64, .int .u32, .int .u32, .int .u64, .int .u64, .sl (.int .u8), .sl (.int .u8), .sl (.int .u8), .sl (.int .u8)], .cat [.int .i64, .int .i64, .int .u32, .int .u32, .int .u64, .int .u64, .sl (.int .u8), .sl (.int .u8), .sl (.int .u8), .sl (.int .u8)]], [.bool], g_ref23_Same⟩) {g : Ds [.sl (.int .u8)] → Option (Rs [.bool])} (hg : ∀ x r, g x = some r → ∃ N, p_law23_CapsuleGets N x = some r) : SigOk Go.Proofs.Try.prog 6 ⟨[.sl (.int .u8)], [.bool], g⟩ :=
  fun_of (E := p_law23_CapsuleGets_E) (H := p_law23_CapsuleGets_H) (L := fun N => p_law23_CapsuleGets_l9_L N) (c := p_law23_CapsuleGets_c) (ks := p_law23_CapsuleGets_ks) (rs := p_law23_CapsuleGets_rs) (F := p_law23_CapsuleGets) (p_law23_CapsuleGets_Eok he_law23_live he_ref01_Join he_capsule_Get he_ref23_Get he_ref01_Equal he_ref23_Same) mix Go.Proofs.Try.func6 (by kernel_rfl) (fun N => p_law23_CapsuleGets_l9_ok N) p_law23_CapsuleGets_eq hg

/-! livery/liverylaw23.CapsuleBack -/
noncomputable def p_law23_CapsuleBack_E : AE := AE.of [(3, ty3), (22, ty22), (32, ty32), (35, ty35), (37, ty37)] [(8, ⟨[], [.bool], g_law23_live⟩), (14, ⟨[.cat [.int .i64, .int .i64, .int .u32, .int .u32, .int .u64, .int .u64, .sl (.int .u8), .sl (.int .u8), .sl (.int .u8), .sl (.int .u8)]], [.bool], g_law23_big⟩), (18, ⟨[.cat [.int .i64, .int .i64, .int .u32, .int .u32, .int .u64, .int .u64, .sl (.int .u8), .sl (.int .u8), .sl (.int .u8), .sl (.int .u8)]], [.sl (.int .u8), .int .i64], g_capsule_Put⟩), (26, ⟨[.fsl (.int .u8)], [.cat [.int .i64, .int .i64, .int .u32, .int .u32, .int .u64, .int .u64, .sl (.int .u8), .sl (.int .u8), .sl (.int .u8), .sl (.int .u8)], .int .i64], g_capsule_Get⟩), (24, ⟨[.cat [.int .i64, .int .i64, .int .u32, .int .u32, .int .u64, .int .u64, .sl (.int .u8), .sl (.int .u8), .sl (.int .u8), .sl (.int .u8)], .cat [.int .i64, .int .i64, .int .u32, .int .u32, .int .u64, .int .u64, .sl (.int .u8), .sl (.int .u8), .sl (.int .u8), .sl (.int .u8)]], [.bool], g_ref23_Same⟩), (11, ⟨[.sl (.int .u8), .sl (.int .u8)], [.bool], g_ref01_Equal⟩)]
noncomputable def p_law23_CapsuleBack_H : Hints := [(3000000, [4])]
noncomputable def p_law23_CapsuleBack_c : Code := (Go.Proofs.Try.f7).body.getD .skip
abbrev p_law23_CapsuleBack_ks : List Kd := [.cat [.int .i64, .int .i64, .int .u32, .int .u32, .int .u64, .int .u64, .sl (.int .u8), .sl (.int .u8), .sl (.int .u8), .sl (.int .u8)], .sl (.int .u8)]
abbrev p_law23_CapsuleBack_rs : List Kd := [.bool]
noncomputable def p_law23_CapsuleBack (N : Nat) (x : (Int × Int × Int × Int × Int × Int × List Int × List Int × List Int × List Int × Unit) × List Int × Unit) : Option (Bool) :=
  (g_law23_live (())).bind fun r1 => (
  if (¬ (r1 = true)) then
    (g_law23_live (())).bind fun r2 => (
    some (decide (r2 = true)))
  else
    (g_law23_big ((x.1.1, x.1.2.1, x.1.2.2.1, x.1.2.2.2.1, x.1.2.2.2.2.1, x.1.2.2.2.2.2.1, x.1.2.2.2.2.2.2.1, x.1.2.2.2.2.2.2.2.1, x.1.2.2.2.2.2.2.2.2.1, x.1.2.2.2.2.2.2.2.2.2.1, ()), ())).bind fun r3 => (
    if (r3 = true) then
      (g_law23_live (())).bind fun r4 => (
      some (decide (r4 = true)))
    else
      if ((((List.length x.2.1) : Nat) : Int) > (90000:Int)) then
        (g_law23_live (())).bind fun r5 => (
        some (decide (r5 = true)))
      else
        (g_capsule_Put ((x.1.1, x.1.2.1, x.1.2.2.1, x.1.2.2.2.1, x.1.2.2.2.2.1, x.1.2.2.2.2.2.1, x.1.2.2.2.2.2.2.1, x.1.2.2.2.2.2.2.2.1, x.1.2.2.2.2.2.2.2.2.1, x.1.2.2.2.2.2.2.2.2.2.1, ()), ())).bind fun r6 => (
        if (r6.2 = (0:Int)) then
          (g_capsule_Get (r6.1, ())).bind fun r7 => (
          if (r7.2 ≠ (0:Int)) then
            some false
          else
            (g_ref23_Same ((r7.1.1, r7.1.2.1, r7.1.2.2.1, r7.1.2.2.2.1, r7.1.2.2.2.2.1, r7.1.2.2.2.2.2.1, r7.1.2.2.2.2.2.2.1, r7.1.2.2.2.2.2.2.2.1, r7.1.2.2.2.2.2.2.2.2.1, r7.1.2.2.2.2.2.2.2.2.2.1, ()), (x.1.1, x.1.2.1, x.1.2.2.1, x.1.2.2.2.1, x.1.2.2.2.2.1, x.1.2.2.2.2.2.1, x.1.2.2.2.2.2.2.1, x.1.2.2.2.2.2.2.2.1, x.1.2.2.2.2.2.2.2.2.1, x.1.2.2.2.2.2.2.2.2.2.1, ()), ())).bind fun r8 => (
            if (¬ (r8 = true)) then
              some false
            else
              (g_capsule_Get (x.2.1, ())).bind fun r9 => (
              if (r9.2 ≠ (0:Int)) then
                (g_ref23_Same ((r9.1.1, r9.1.2.1, r9.1.2.2.1, r9.1.2.2.2.1, r9.1.2.2.2.2.1, r9.1.2.2.2.2.2.1, r9.1.2.2.2.2.2.2.1, r9.1.2.2.2.2.2.2.2.1, r9.1.2.2.2.2.2.2.2.2.1, r9.1.2.2.2.2.2.2.2.2.2.1, ()), ((List.getD [0] 0 0), (List.getD [0] 0 0), (List.getD [0] 0 0), (List.getD [0] 0 0), (List.getD (List.take 1 (List.replicate 2 0)) 0 0), (List.getD (List.drop 1 (List.replicate 2 0)) 0 0), [], [], [], [], ()), ())).bind fun r10 => (
                some (decide (r10 = true)))
              else
                (g_capsule_Put ((r9.1.1, r9.1.2.1, r9.1.2.2.1, r9.1.2.2.2.1, r9.1.2.2.2.2.1, r9.1.2.2.2.2.2.1, r9.1.2.2.2.2.2.2.1, r9.1.2.2.2.2.2.2.2.1, r9.1.2.2.2.2.2.2.2.2.1, r9.1.2.2.2.2.2.2.2.2.2.1, ()), ())).bind fun r11 => (
                if (r11.2 = (0:Int)) then
                  (g_ref01_Equal (r11.1, x.2.1, ())).bind fun r12 => (
                  some (decide (r12 = true)))
                else
                  some false))))
        else
          (g_capsule_Get (x.2.1, ())).bind fun r13 => (
          if (r13.2 ≠ (0:Int)) then
            (g_ref23_Same ((r13.1.1, r13.1.2.1, r13.1.2.2.1, r13.1.2.2.2.1, r13.1.2.2.2.2.1, r13.1.2.2.2.2.2.1, r13.1.2.2.2.2.2.2.1, r13.1.2.2.2.2.2.2.2.1, r13.1.2.2.2.2.2.2.2.2.1, r13.1.2.2.2.2.2.2.2.2.2.1, ()), ((List.getD [0] 0 0), (List.getD [0] 0 0), (List.getD [0] 0 0), (List.getD [0] 0 0), (List.getD (List.take 1 (List.replicate 2 0)) 0 0), (List.getD (List.drop 1 (List.replicate 2 0)) 0 0), [], [], [], [], ()), ())).bind fun r14 => (
            some (decide (r14 = true)))
          else
            (g_capsule_Put ((r13.1.1, r13.1.2.1, r13.1.2.2.1, r13.1.2.2.2.1, r13.1.2.2.2.2.1, r13.1.2.2.2.2.2.1, r13.1.2.2.2.2.2.2.1, r13.1.2.2.2.2.2.2.2.1, r13.1.2.2.2.2.2.2.2.2.1, r13.1.2.2.2.2.2.2.2.2.2.1, ()), ())).bind fun r15 => (
            if (r15.2 = (0:Int)) then
              (g_ref01_Equal (r15.1, x.2.1, ())).bind fun r16 => (
              some (decide (r16 = true)))
            else
              some false)))))
theorem p_law23_CapsuleBack_eq (N : Nat) (x : Ds [.cat [.int .i64, .int .i64, .int .u32, .int .u32, .int .u64, .int .u64, .sl (.int .u8), .sl (.int .u8), .sl (.int .u8), .sl (.int .u8)], .sl (.int .u8)]) : funL p_law23_CapsuleBack_E p_law23_CapsuleBack_H (LT.nil) N Go.Proofs.Try.f7 p_law23_CapsuleBack_c [.cat [.int .i64, .int .i64, .int .u32, .int .u32, .int .u64, .int .u64, .sl (.int .u8), .sl (.int .u8), .sl (.int .u8), .sl (.int .u8)], .sl (.int .u8)] [.bool] x = p_law23_CapsuleBack N x := by kernel_rfl
theorem p_law23_CapsuleBack_Eok (he_law23_live : SigOk Go.Proofs.Try.prog 8 ⟨[], [.bool], g_law23_live⟩) (he_law23_big : SigOk Go.Proofs.Try.prog 14 ⟨[.cat [.int .i64, .int .i64, .int .u32, .int .u32, .int .u64, .int .u64, .sl (.int .u8), .sl (.int .u8), .sl (.int .u8), .sl (.int .u8)]], [.bool], g_law23_big⟩) (he_capsule_Put : SigOk Go.Proofs.Try.prog 18 ⟨[.cat [.int .i64, .int .i64, .int .u32, .int .u32, .int .u64, .int .u64, .sl (.int .u8), .sl (.int .u8), .sl (.int .u8), .sl (.int .u8)]], [.sl (.int .u8), .int .i64], g_capsule_Put⟩) (he_capsule_Get : SigOk Go.Proofs.Try.prog 26 ⟨[.fsl (.int .u8)], [.cat [.int .i64, .int .i64, .int .u32, .int .u32, .int .u64, .int .u64, .sl (.int .u8), .sl (.int .u8), .sl (.int .u8), .sl (.int .u8)], .int .i64], g_capsule_Get⟩) (he_ref23_Same : SigOk Go.Proofs.Try.prog 24 ⟨[.cat [.int .i64, .int .i64, .int .u32, .int .u32, .int .u64, .int .u64, .sl (.int .u8), .sl (.int .u8), .sl (.int .u8), .sl (.int .u8)], .cat [.int .i64, .int .i64, .int .u32, .int .u32, .int .u64, .int .u64, .sl (.int .u8), .sl (.int .u8), .sl (.int .u8), .sl (.int .u8)]], [.bool], g_ref23_Same⟩) (he_ref01_Equal : SigOk Go.Proofs.Try.prog 11 ⟨[.sl (.int .u8), .sl (.int .u8)], [.bool], g_ref01_Equal⟩) : p_law23_CapsuleBack_E.Ok Go.Proofs.Try.prog := AE.of_ok (all_cons ty3_ok (all_cons ty22_ok (all_cons ty32_ok (all_cons ty35_ok (all_cons ty37_ok all_nil))))) (all_cons ⟨he_law23_live, enters_law23_live⟩ (all_cons ⟨he_law23_big, enters_law23_big⟩ (all_cons ⟨he_capsule_Put, enters_capsule_Put⟩ (all_cons ⟨he_capsule_Get, enters_capsule_Get⟩ (all_cons ⟨he_ref23_Same, enters_ref23_Same⟩ (all_cons ⟨he_ref01_Equal, enters_ref01_Equal⟩ all_nil))))))
theorem p_law23_CapsuleBack_ok (he_law23_live : SigOk Go.Proofs.Try.prog 8 ⟨[], [.bool], g_law23_live⟩) (he_law23_big : SigOk Go.Proofs.Try.prog 14 ⟨[.cat [.int .i64, .int .i64, .int .u32, .int .u32, .int .u64, .int .u64, .sl (.int .u8), .sl (.int .u8), .sl (.int .u8), .sl (.int .u8)]], [.bool], g_law23_big⟩) (he_capsule_Put : SigOk Go.Proofs.Try.prog 18 ⟨[.cat [.int .i64, .int .i64, .int .u32, .int .u32, .int .u64, .int .u64, .sl (.int .u8), .sl (.int .u8), .sl (.int .u8), .sl (.int .u8)]], [.sl (.int .u8), .int .i64], g_capsule_Put⟩) (he_capsule_Get : SigOk Go.Proofs.Try.prog 26 ⟨[.fsl (.int .u8)], [.cat [.int .i64, .int .i64, .int .u32, .int .u32, .int .u64, .int .u64, .sl (.int .u8), .sl (.int .u8), .sl (.int .u8), .sl (.int .u8)], .int .i64], g_capsule_Get⟩) (he_ref23_Same : SigOk Go.Proofs.Try.prog 24 ⟨[.cat [.int .i64, .int .i64, .int .u32, .int .u32, .int .u64, .int .u64, .sl (.int .u8), .sl (.int .u8), .sl (.int .u8), .sl (.int .u8)], .cat [.int .i64, .int .i64, .int .u32, .int .u32, .int .u64, .int .u64, .sl (.int .u8), .sl (.int .u8), .sl (.int .u8), .sl (.int .u8)]], [.bool], g_ref23_Same⟩) (he_ref01_Equal : SigOk Go.Proofs.Try.prog 11 ⟨[.sl (.int .u8), .sl (.int .u8)], [.bool], g_ref01_Equal⟩) {g : Ds [.cat [.int .i64, .int .i64, .int .u32, .int .u32, .int .u64, .int .u64, .sl (.int .u8), .sl (.int .u8), .sl (.int .u8), .sl (.int .u8)], .sl (.int .u8)] → Option (Rs [.bool])} (hg : ∀ x r, g x = some r → ∃ N, p_law23_CapsuleBack N x = some r) : SigOk Go.Proofs.Try.prog 7 ⟨[.cat [.int .i64, .int .i64, .int .u32, .int .u32, .int .u64, .int .u64, .sl (.int .u8), .sl (.int .u8), .sl (.int .u8), .sl (.int .u8)], .sl (.int .u8)], [.bool], g⟩ :=
  fun_of (E := p_law23_CapsuleBack_E) (H := p_law23_CapsuleBack_H) (L := fun N => LT.nil) (c := p_law23_CapsuleBack_c) (ks := p_law23_CapsuleBack_ks) (rs := p_law23_CapsuleBack_rs) (F := p_law23_CapsuleBack) (p_law23_CapsuleBack_Eok he_law23_live he_law23_big he_capsule_Put he_capsule_Get he_ref23_Same he_ref01_Equal) mix Go.Proofs.Try.func7 (by kernel_rfl) (fun N => OkAll.nil) p_law23_CapsuleBack_eq hg
end Go.Ax.TryP
/-! ### Capsules read: proofs -/
set_option linter.unusedVariables false
namespace Go.Ax.TryP
theorem numS_snoc (b : List Int) (z : Int) : numS (b ++ [z]) = numS b * 256 + z := by rw [numS_append]; rfl
theorem take_snoc {b : List Int} {i : Nat} (hi : i < b.length) : b.take (i + 1) = b.take i ++ [b.getD i 0] := by
  rw [List.take_succ_eq_append_getElem hi, List.getD_eq_getElem?_getD, List.getElem?_eq_getElem hi]; rfl
theorem numS_bound {b : List Int} : ∀ (n : Nat), b.length = n → bytes b → 0 ≤ numS b ∧ numS b < 256 ^ n := by
  intro n
  induction n generalizing b with
  | zero => intro h _; have : b = [] := List.eq_nil_of_length_eq_zero h; subst this; exact ⟨Int.le_refl _, by decide⟩
  | succ n ih =>
    intro h hb
    obtain ⟨c, z, rfl⟩ : ∃ c z, b = c ++ [z] := ⟨b.take n, b.getD n 0, by rw [← take_snoc (by omega), List.take_of_length_le (by omega)]⟩
    rw [List.length_append] at h
    obtain ⟨h1, h2⟩ := ih (b := c) (by simpa using h) (fun y hy => hb y (by simp [hy]))
    have hz := hb z (by simp)
    rw [numS_snoc, Int.pow_succ]
    omega
theorem pow256 {n m : Nat} (h : n ≤ m) : (256 : Int) ^ n ≤ 256 ^ m := by
  have := Nat.pow_le_pow_right (n := 256) (by decide) h
  rw [show (256 : Int) = ((256 : Nat) : Int) from rfl, ← Int.natCast_pow, ← Int.natCast_pow]
  exact Int.ofNat_le.2 this
theorem numS_u64 {b : List Int} (hb : bytes b) (hl : b.length ≤ 8) : 0 ≤ numS b ∧ numS b ≤ 18446744073709551615 := by
  obtain ⟨h1, h2⟩ := numS_bound _ rfl hb
  have h3 : (256 : Int) ^ b.length ≤ 256 ^ 8 := pow256 hl
  have h4 : (256 : Int) ^ 8 = 18446744073709551616 := by decide
  omega
theorem take_bytes {b : List Int} (hb : bytes b) (i : Nat) : bytes (b.take i) := fun z hz => hb z (List.mem_of_mem_take hz)
theorem drop_bytes {b : List Int} (hb : bytes b) (i : Nat) : bytes (b.drop i) := fun z hz => hb z (List.mem_of_mem_drop hz)
theorem numS_small {b : List Int} (hb : bytes b) {i : Nat} (hi : i < b.length) (hl : b.length ≤ 8) : 0 ≤ numS (b.take i) ∧ numS (b.take i) < 72057594037927936 := by
  obtain ⟨h1, h2⟩ := numS_bound i (by rw [List.length_take]; omega) (take_bytes hb i)
  have h3 : (256 : Int) ^ i ≤ 256 ^ 7 := pow256 (by omega)
  have h4 : (256 : Int) ^ 7 = 72057594037927936 := by decide
  omega
theorem shl_or {x z : Int} (hx : 0 ≤ x ∧ x < 72057594037927936) (hz : 0 ≤ z ∧ z ≤ 255) : ior .u64 (ishl .u64 x 8) z = x * 256 + z := by
  obtain ⟨x, rfl⟩ : ∃ m : Nat, x = m := ⟨x.toNat, by omega⟩
  obtain ⟨z, rfl⟩ : ∃ m : Nat, z = m := ⟨z.toNat, by omega⟩
  have e := ishl_nat (k := .u64) rfl (m := x) (s := 8) (by decide) (by show x * 2 ^ 8 < 2 ^ 64; omega)
  rw [show ((8 : Nat) : Int) = 8 from rfl] at e
  rw [e, ior_nat (k := .u64) rfl (by show x * 2 ^ 8 < 2 ^ 64; omega) (by show z < 2 ^ 64; omega), Nat.or_comm, or_add (show z < 2 ^ 8 by omega)]
  omega
theorem q_octet_BigOf : ∀ x r, g_octet_BigOf x = some r → ∃ N, p_octet_BigOf N x = some r := by
  refine Spec_of (ks := p_octet_BigOf_ks) (rs := p_octet_BigOf_rs) fun x hw hq => ⟨10, ?_⟩
  obtain ⟨(b : List Int), u⟩ := x
  obtain ⟨_, hb⟩ : b.length ≤ maxLen ∧ bytes b := wf_b1.1 hw.1
  obtain ⟨h1, h2⟩ : 1 ≤ b.length ∧ b.length ≤ 8 := hq
  unfold p_octet_BigOf
  dsimp only
  rw [if_neg (by omega), if_neg (by omega)]
  refine (iter_from (F := p_octet_BigOf_l5_F 10) (s := fun i => (numS (b.take i), b.length, (b.length : Int), (i : Int), b.length, b, ())) (y := (numS b, ())) b.length rfl ?_ ?_ 10 (by omega)).trans ?_
  · intro i hi kn
    have hz := byte_at hb i
    have hx := numS_small hb hi h2
    unfold p_octet_BigOf_l5_F
    dsimp only
    rw [if_pos (by omega), if_pos (by omega), if_pos (by omega), Int.toNat_natCast, if_pos (by omega), wrap_u64' hz.1 (by omega), shl_or hx hz, wrap_i64 (by omega) (by omega), take_snoc hi, numS_snoc]
    rfl
  · intro kn
    unfold p_octet_BigOf_l5_F
    dsimp only
    rw [if_neg (by omega), List.take_length]
  · rfl
theorem at_BigOf {b : List Int} (hb : bytes b) (h : 1 ≤ b.length ∧ b.length ≤ 8) : g_octet_BigOf (b, ()) = some (numS b, 0) := by
  have hM := maxL
  exact Spec_at (ks := p_octet_BigOf_ks) (rs := p_octet_BigOf_rs) (x := (b, ())) ⟨(wf_b1 (b := b)).2 ⟨by omega, hb⟩, trivial⟩ h
theorem q_ref01_Number : ∀ x r, g_ref01_Number x = some r → ∃ N, p_ref01_Number N x = some r := by
  refine Spec_of (ks := p_ref01_Number_ks) (rs := p_ref01_Number_rs) fun x hw hq => ⟨10, ?_⟩
  obtain ⟨(b : List Int), u⟩ := x
  obtain ⟨_, hb⟩ : b.length ≤ maxLen ∧ bytes b := wf_b1.1 hw.1
  have h2 : b.length ≤ 8 := hq
  unfold p_ref01_Number
  dsimp only
  refine (iter_from (F := p_ref01_Number_l3_F 10) (s := fun i => (numS (b.take i), b.length, (b.length : Int), (i : Int), b.length, b, ())) (y := (numS b, ())) b.length rfl ?_ ?_ 10 (by omega)).trans ?_
  · intro i hi kn
    have hz := byte_at hb i
    have hx := numS_small hb hi h2
    unfold p_ref01_Number_l3_F
    dsimp only
    rw [if_pos (by omega), if_pos (by omega), if_pos (by omega), Int.toNat_natCast, if_pos (by omega), wrap_u64' hz.1 (by omega), wrap_u64' (x := numS (b.take i) * 256) (by omega) (by omega), wrap_u64' (by omega) (by omega), wrap_i64 (by omega) (by omega), take_snoc hi, numS_snoc]
    rfl
  · intro kn
    unfold p_ref01_Number_l3_F
    dsimp only
    rw [if_neg (by omega), List.take_length]
  · rfl
theorem at_Number {b : List Int} (hb : bytes b) (h : b.length ≤ 8) : g_ref01_Number (b, ()) = some (numS b) := by
  have hM := maxL
  exact Spec_at (ks := p_ref01_Number_ks) (rs := p_ref01_Number_rs) (x := (b, ())) ⟨(wf_b1 (b := b)).2 ⟨by omega, hb⟩, trivial⟩ h
def rdOk (s : Rd) : Prop := s.1.length ≤ 1000000 ∧ bytes s.1
theorem wf_rd {s : Rd} (h : Kd.wf (.io rdL) s) : s.1.length ≤ maxLen ∧ bytes s.1 := by
  obtain ⟨⟨h1, h2⟩, _⟩ := h
  exact ⟨h1, fun z hz => okInt_u8.1 (h2 z hz)⟩
theorem rd_wf {s : Rd} (h : rdOk s) : Kd.wf (.io rdL) s := by
  have hM := maxL
  exact ⟨⟨by have := h.1; omega, fun z hz => okInt_u8.2 (h.2 z hz)⟩, trivial, trivial⟩
theorem rep_bytes (n : Nat) : bytes (List.replicate n 0) := fun z hz => by rw [List.eq_of_mem_replicate hz]; omega
theorem tk_ok {s : Rd} (h : rdOk s) (n : Nat) : bytes (tk s n).1 ∧ rdOk (tk s n).2 := by
  unfold tk
  split
  · exact ⟨rep_bytes _, h⟩
  · exact ⟨take_bytes h.2 _, by show (s.1.drop n).length ≤ 1000000; rw [List.length_drop]; have := h.1; omega, drop_bytes h.2 _⟩
theorem dec_eta (b : Bool) : decide (b = true) = b := by cases b <;> rfl
theorem rd_eta (s : Rd) : (s.1, s.2.1, ()) = s := rfl
theorem q_capsule_reader_take : ∀ x r, g_capsule_reader_take x = some r → ∃ N, p_capsule_reader_take N x = some r := by
  refine Spec_of (ks := p_capsule_reader_take_ks) (rs := p_capsule_reader_take_rs) fun x hw hq => ⟨0, ?_⟩
  obtain ⟨(s : Rd), (n : Int), u⟩ := x
  obtain ⟨_, hb⟩ := wf_rd hw.1
  obtain ⟨h1, h2, h3⟩ : 0 ≤ n ∧ n ≤ 100000 ∧ s.1.length ≤ 1000000 := hq
  obtain ⟨n, rfl⟩ : ∃ m : Nat, n = m := ⟨n.toNat, by omega⟩
  show p_capsule_reader_take 0 (s, (n : Int), u) = some (tk s ((n : Int).toNat))
  rw [Int.toNat_natCast]
  have em : (if (8 : Int) < (n : Int) then (8 : Int) else (n : Int)) = ((min n 8 : Nat) : Int) := by split <;> omega
  unfold p_capsule_reader_take tk
  dsimp only
  rw [em, Int.toNat_natCast]
  have c1 : (0 : Int) ≤ ((min n 8 : Nat) : Int) := by omega
  have c2 : ((min n 8 : Nat) : Int) * 1 ≤ 281474976710656 := by omega
  by_cases hbad : s.2.1 = true
  · simp only [hbad, c1, c2, if_true, true_or]
  · rw [if_neg hbad]
    by_cases hl : s.1.length < n
    · have hl2 : ((s.1.length : Nat) : Int) < (n : Int) := by omega
      simp only [hl, hl2, c1, c2, if_true, or_true]
    · have hno : ¬(s.2.1 = true ∨ s.1.length < n) := fun h => h.elim hbad hl
      rw [if_neg (by omega), if_pos (by omega), if_pos (by omega), Int.toNat_natCast, if_neg hno, List.drop_zero, Nat.sub_zero,
        at_JoinR2 ?_, Option.bind_some, if_pos (by omega), if_pos (by omega), List.take_of_length_le (l := s.1.drop n) (by rw [List.length_drop]; omega), dec_eta]
      · have : s.2.1 = false := by cases h : s.2.1 <;> simp_all
        rw [this]
      · exact ⟨by rw [List.length_take]; omega, take_bytes hb _⟩
  where
  at_JoinR2 {r : List Int} (h : r.length ≤ 1000000 ∧ bytes r) : g_octet_Join ([r], ()) = some r := by
    rw [at_Join ⟨by simp, by rw [one_flat]; exact h.1⟩ (one_row h), one_flat]
theorem at_take {s : Rd} (h : rdOk s) {n : Nat} (hn : n ≤ 100000) : g_capsule_reader_take (s, (n : Int), ()) = some (tk s n) := by
  have := Spec_at (ks := p_capsule_reader_take_ks) (rs := p_capsule_reader_take_rs) (x := (s, (n : Int), ())) (Q := fun x => 0 ≤ x.2.1 ∧ x.2.1 ≤ 100000 ∧ x.1.1.length ≤ 1000000) (f := fun x => tk x.1 x.2.1.toNat)
    ⟨rd_wf h, (okInt_i64 (n := (n : Int))).2 (by omega), trivial⟩ ⟨by show (0 : Int) ≤ n; omega, by show (n : Int) ≤ 100000; omega, h.1⟩
  exact this
theorem tk_len {s : Rd} {n : Nat} (h : 1 ≤ n ∧ n ≤ 8) : 1 ≤ (tk s n).1.length ∧ (tk s n).1.length ≤ 8 := by
  unfold tk
  split
  · simp only [List.length_replicate]; omega
  · rename_i h2
    simp only [not_or] at h2
    show 1 ≤ (s.1.take n).length ∧ (s.1.take n).length ≤ 8
    rw [List.length_take]; omega
theorem q_capsule_reader_number : ∀ x r, g_capsule_reader_number x = some r → ∃ N, p_capsule_reader_number N x = some r := by
  refine Spec_of (ks := p_capsule_reader_number_ks) (rs := p_capsule_reader_number_rs) fun x hw hq => ⟨0, ?_⟩
  obtain ⟨(s : Rd), (n : Int), u⟩ := x
  obtain ⟨_, hb⟩ := wf_rd hw.1
  obtain ⟨h1, h2, h3⟩ : 1 ≤ n ∧ n ≤ 8 ∧ s.1.length ≤ 1000000 := hq
  obtain ⟨n, rfl⟩ : ∃ m : Nat, n = m := ⟨n.toNat, by omega⟩
  show p_capsule_reader_number 0 (s, (n : Int), u) = some (nmS s ((n : Int).toNat))
  have hs : rdOk s := ⟨h3, hb⟩
  rw [Int.toNat_natCast]
  unfold p_capsule_reader_number nmS
  simp only [dec_eta, rd_eta]
  rw [at_take hs (by omega), Option.bind_some, at_BigOf (tk_ok hs n).1 (tk_len (by omega)), Option.bind_some]
theorem at_number {s : Rd} (h : rdOk s) {n : Nat} (hn : 1 ≤ n ∧ n ≤ 8) : g_capsule_reader_number (s, (n : Int), ()) = some (nmS s n) := by
  have := Spec_at (ks := p_capsule_reader_number_ks) (rs := p_capsule_reader_number_rs) (x := (s, (n : Int), ())) (Q := fun x => 1 ≤ x.2.1 ∧ x.2.1 ≤ 8 ∧ x.1.1.length ≤ 1000000) (f := fun x => nmS x.1 x.2.1.toNat)
    ⟨rd_wf h, (okInt_i64 (n := (n : Int))).2 (by omega), trivial⟩ ⟨by show (1 : Int) ≤ n; omega, by show (n : Int) ≤ 8; omega, h.1⟩
  exact this
theorem nmS_ok {s : Rd} (h : rdOk s) {n : Nat} (hn : 1 ≤ n ∧ n ≤ 8) : (0 ≤ (nmS s n).1 ∧ (nmS s n).1 ≤ 18446744073709551615) ∧ rdOk (nmS s n).2 :=
  ⟨numS_u64 (tk_ok h n).1 (tk_len hn).2, (tk_ok h n).2⟩
theorem tk_len2 {s : Rd} {n : Nat} : (tk s n).1.length ≤ n := by
  unfold tk
  split
  · simp only [List.length_replicate]; omega
  · show (s.1.take n).length ≤ n
    rw [List.length_take]; omega
theorem nmS_two {s : Rd} (h : rdOk s) {n : Nat} (hn : n ≤ 2) : 0 ≤ (nmS s n).1 ∧ (nmS s n).1 ≤ 65535 := by
  obtain ⟨h1, h2⟩ := numS_bound _ rfl (tk_ok h n).1
  have hl : (tk s n).1.length ≤ n := tk_len2
  have h3 : (256 : Int) ^ (tk s n).1.length ≤ 256 ^ 2 := pow256 (by omega)
  have h4 : (256 : Int) ^ 2 = 65536 := by decide
  exact ⟨h1, by show numS (tk s n).1 ≤ 65535; omega⟩
theorem q_capsule_reader_text : ∀ x r, g_capsule_reader_text x = some r → ∃ N, p_capsule_reader_text N x = some r := by
  refine Spec_of (ks := p_capsule_reader_text_ks) (rs := p_capsule_reader_text_rs) fun x hw hq => ⟨0, ?_⟩
  obtain ⟨(s : Rd), (n : Int), u⟩ := x
  obtain ⟨_, hb⟩ := wf_rd hw.1
  obtain ⟨h1, h2, h3⟩ : 1 ≤ n ∧ n ≤ 2 ∧ s.1.length ≤ 1000000 := hq
  obtain ⟨n, rfl⟩ : ∃ m : Nat, n = m := ⟨n.toNat, by omega⟩
  show p_capsule_reader_text 0 (s, (n : Int), u) = some (txS s ((n : Int).toNat))
  have hs : rdOk s := ⟨h3, hb⟩
  rw [Int.toNat_natCast]
  unfold p_capsule_reader_text txS
  simp only [dec_eta, rd_eta]
  have hm := nmS_two hs (n := n) (by omega)
  rw [at_number hs (by omega), Option.bind_some, wrap_i64 (by omega) (by omega)]
  have em : (nmS s n).1 = (((nmS s n).1.toNat : Nat) : Int) := by omega
  have := at_take (nmS_ok hs (n := n) (by omega)).2 (n := (nmS s n).1.toNat) (by omega)
  rw [← em] at this
  rw [this, Option.bind_some]
theorem at_rtext {s : Rd} (h : rdOk s) {n : Nat} (hn : 1 ≤ n ∧ n ≤ 2) : g_capsule_reader_text (s, (n : Int), ()) = some (txS s n) := by
  have := Spec_at (ks := p_capsule_reader_text_ks) (rs := p_capsule_reader_text_rs) (x := (s, (n : Int), ())) (Q := fun x => 1 ≤ x.2.1 ∧ x.2.1 ≤ 2 ∧ x.1.1.length ≤ 1000000) (f := fun x => txS x.1 x.2.1.toNat)
    ⟨rd_wf h, (okInt_i64 (n := (n : Int))).2 (by omega), trivial⟩ ⟨by show (1 : Int) ≤ n; omega, by show (n : Int) ≤ 2; omega, h.1⟩
  exact this
end Go.Ax.TryP
/-! ### The capsule of a form -/
set_option linter.unusedVariables false
namespace Go.Ax.TryP
/-- So many bytes are taken, or there were not so many. -/
def Sat (b : List Int) (k : Nat) (s : Rd) : Prop := (k ≤ b.length ∧ s = (b.drop k, false, ())) ∨ (b.length < k ∧ s.2.1 = true)
theorem sat_tk {b : List Int} {k : Nat} {s : Rd} (h : Sat b k s) (n : Nat) : Sat b (k + n) (tk s n).2 := by
  rcases h with ⟨h1, rfl⟩ | ⟨h1, h2⟩
  · unfold tk
    by_cases hn : (b.drop k).length < n
    · rw [if_pos (.inr hn)]
      rw [List.length_drop] at hn
      exact .inr ⟨by omega, rfl⟩
    · rw [if_neg (fun h => h.elim (fun h => by cases h) hn)]
      rw [List.length_drop] at hn
      exact .inl ⟨by omega, by rw [List.drop_drop]⟩
  · unfold tk
    rw [if_pos (.inl h2)]
    exact .inr ⟨by omega, rfl⟩
theorem val_tk {b : List Int} {k : Nat} {s : Rd} (h : Sat b k s) {n : Nat} (hn : k + n ≤ b.length) : (tk s n).1 = pc b k n := by
  rcases h with ⟨h1, rfl⟩ | ⟨h1, h2⟩
  · unfold tk
    rw [if_neg (fun h => h.elim (fun h => by cases h) (fun h => by rw [List.length_drop] at h; omega))]
    rfl
  · omega
theorem nm_facts {b : List Int} {k : Nat} {s : Rd} (hs : Sat b k s) (ho : rdOk s) {n : Nat} (hn : 1 ≤ n ∧ n ≤ 8) :
    Sat b (k + n) (nmS s n).2 ∧ rdOk (nmS s n).2 ∧ (0 ≤ (nmS s n).1 ∧ (nmS s n).1 ≤ 18446744073709551615) ∧ (k + n ≤ b.length → (nmS s n).1 = numS (pc b k n)) ∧ (n ≤ 4 → (nmS s n).1 ≤ 4294967295) := by
  obtain ⟨h1, h2⟩ := nmS_ok ho hn
  refine ⟨sat_tk hs n, h2, h1, fun h => by unfold nmS; dsimp only; rw [val_tk hs h], fun h4 => ?_⟩
  obtain ⟨g1, g2⟩ := numS_bound _ rfl (tk_ok ho n).1
  have hl : (tk s n).1.length ≤ n := tk_len2
  have h3 : (256 : Int) ^ (tk s n).1.length ≤ 256 ^ 4 := pow256 (by omega)
  have h5 : (256 : Int) ^ 4 = 4294967296 := by decide
  show numS (tk s n).1 ≤ 4294967295
  omega
theorem tx_facts {b : List Int} {k : Nat} {s : Rd} (hs : Sat b k s) (ho : rdOk s) :
    ∃ m : Nat, m ≤ 65535 ∧ Sat b (k + 2 + m) (txS s 2).2 ∧ rdOk (txS s 2).2 ∧ (k + 2 ≤ b.length → m = (numS (pc b k 2)).toNat) ∧ (k + 2 + m ≤ b.length → (txS s 2).1 = pc b (k + 2) m) := by
  obtain ⟨h1, h2, h3, h4, _⟩ := nm_facts hs ho (n := 2) (by omega)
  have h5 := nmS_two ho (n := 2) (by omega)
  refine ⟨(nmS s 2).1.toNat, by omega, sat_tk h1 _, (tk_ok h2 _).2, fun h => by rw [h4 h], fun h => val_tk h1 h⟩
theorem pc_bytes {b : List Int} (hb : bytes b) (i n : Nat) : bytes (pc b i n) := sub_bytes hb i n
theorem pc_len (b : List Int) (i n : Nat) : (pc b i n).length ≤ n := by unfold pc; rw [List.length_take]; omega
theorem pc_len2 (b : List Int) (i n : Nat) : (pc b i n).length ≤ b.length := by unfold pc; rw [List.length_take, List.length_drop]; omega
theorem num_le {c : List Int} (hb : bytes c) {n : Nat} (hl : c.length ≤ n) : 0 ≤ numS c ∧ numS c < 256 ^ n := by
  obtain ⟨g1, g2⟩ := numS_bound _ rfl hb
  have := pow256 hl
  omega
theorem gC_ok {b : List Int} (hb : bytes b) (hl : b.length ≤ 1000000) : cpOk (gC b) := by
  have hM := maxL
  have b0 := byte_at hb 0
  have b1 := byte_at hb 1
  have e4 : (256 : Int) ^ 4 = 4294967296 := by decide
  have e8 : (256 : Int) ^ 8 = 18446744073709551616 := by decide
  have n2 := num_le (pc_bytes hb 2 4) (pc_len b 2 4)
  have n6 := num_le (pc_bytes hb 6 4) (pc_len b 6 4)
  have n10 := num_le (pc_bytes hb 10 8) (pc_len b 10 8)
  have n18 := num_le (pc_bytes hb 18 8) (pc_len b 18 8)
  have row : ∀ i n, (pc b i n).length ≤ maxLen ∧ bytes (pc b i n) := fun i n => ⟨by have := pc_len2 b i n; omega, pc_bytes hb i n⟩
  refine ⟨?_, ?_, ?_, ?_, ?_, ?_, row _ _, row _ _, row _ _, row _ _⟩
  · show -9223372036854775808 ≤ b.getD 0 0 ∧ b.getD 0 0 ≤ 9223372036854775807; omega
  · show -9223372036854775808 ≤ b.getD 1 0 ∧ b.getD 1 0 ≤ 9223372036854775807; omega
  · show 0 ≤ numS (pc b 2 4) ∧ numS (pc b 2 4) ≤ 4294967295; omega
  · show 0 ≤ numS (pc b 6 4) ∧ numS (pc b 6 4) ≤ 4294967295; omega
  · show 0 ≤ numS (pc b 10 8) ∧ numS (pc b 10 8) ≤ 18446744073709551615; omega
  · show 0 ≤ numS (pc b 18 8) ∧ numS (pc b 18 8) ≤ 18446744073709551615; omega
theorem num_one {b : List Int} {i : Nat} (h : i < b.length) : numS (pc b i 1) = b.getD i 0 := by
  unfold pc
  rw [List.drop_eq_getElem_cons h, List.take_succ_cons, List.take_zero, List.getD_eq_getElem?_getD, List.getElem?_eq_getElem h]
  simp [numS]
theorem q_capsule_Get : ∀ x r, g_capsule_Get x = some r → ∃ N, p_capsule_Get N x = some r := by
  refine Spec_of (ks := p_capsule_Get_ks) (rs := p_capsule_Get_rs) fun x hw hq => ⟨0, ?_⟩
  obtain ⟨(b : List Int), u⟩ := x
  obtain ⟨_, hb⟩ : b.length ≤ maxLen ∧ bytes b := wf_b1.1 hw.1
  have hl : b.length ≤ 1000000 := hq
  show p_capsule_Get 0 (b, u) = some (getS b)
  have s0 : Sat b 0 (b, false, ()) := .inl ⟨Nat.zero_le _, rfl⟩
  have o0 : rdOk (b, false, ()) := ⟨hl, hb⟩
  unfold p_capsule_Get
  dsimp only
  simp only [dec_eta, rd_eta]
  have f1 := nm_facts s0 o0 (n := 1) (by omega)
  refine (congrArg (fun o => Option.bind o _) (show _ = _ from at_number o0 (n := 1) (by omega))).trans ?_
  rw [show (1 : Int) = ((1 : Nat) : Int) from rfl, Option.bind_some]
  generalize nmS (b, false, ()) 1 = r1 at f1 ⊢
  obtain ⟨s1, o1, l1, v1, w1⟩ := f1
  have f2 := nm_facts s1 o1 (n := 1) (by omega)
  rw [at_number o1 (by omega), Option.bind_some]
  generalize nmS r1.2 1 = r2 at f2 ⊢
  obtain ⟨s2, o2, l2, v2, w2⟩ := f2
  have f3 := nm_facts s2 o2 (n := 4) (by omega)
  rw [show (4 : Int) = ((4 : Nat) : Int) from rfl, at_number o2 (by omega), Option.bind_some]
  generalize nmS r2.2 4 = r3 at f3 ⊢
  obtain ⟨s3, o3, l3, v3, w3⟩ := f3
  have f4 := nm_facts s3 o3 (n := 4) (by omega)
  rw [at_number o3 (by omega), Option.bind_some]
  generalize nmS r3.2 4 = r4 at f4 ⊢
  obtain ⟨s4, o4, l4, v4, w4⟩ := f4
  have f5 := nm_facts s4 o4 (n := 8) (by omega)
  rw [show (8 : Int) = ((8 : Nat) : Int) from rfl, at_number o4 (by omega), Option.bind_some]
  generalize nmS r4.2 8 = r5 at f5 ⊢
  obtain ⟨s5, o5, l5, v5, _⟩ := f5
  have f6 := nm_facts s5 o5 (n := 8) (by omega)
  rw [at_number o5 (by omega), Option.bind_some]
  generalize nmS r5.2 8 = r6 at f6 ⊢
  obtain ⟨s6, o6, l6, v6, _⟩ := f6
  have f7 := tx_facts s6 o6
  rw [show (2 : Int) = ((2 : Nat) : Int) from rfl, at_rtext o6 (by omega), Option.bind_some]
  generalize txS r6.2 2 = r7 at f7 ⊢
  obtain ⟨n, hn, s7, o7, n7, v7⟩ := f7
  have s8 := sat_tk s7 1088
  have o8 := (tk_ok o7 1088).2
  have v8 := fun h => val_tk s7 (n := 1088) h
  rw [show (1088 : Int) = ((1088 : Nat) : Int) from rfl, at_take o7 (by omega), Option.bind_some]
  generalize tk r7.2 1088 = r8 at s8 o8 v8 ⊢
  have f9 := tx_facts s8 o8
  rw [at_rtext o8 (by omega), Option.bind_some]
  generalize txS r8.2 2 = r9 at f9 ⊢
  obtain ⟨m, hm, s9, o9, m9, v9⟩ := f9
  have s10 := sat_tk s9 3309
  have v10 := fun h => val_tk s9 (n := 3309) h
  rw [show (3309 : Int) = ((3309 : Nat) : Int) from rfl, at_take o9 (by omega), Option.bind_some]
  generalize tk r9.2 3309 = r10 at s10 v10 ⊢
  have bad : ∀ z : Cp, z = zC → gK b ≠ b.length → some (z, (230 : Int)) = some (getS b) := by
    intro z hz hne
    unfold getS
    rw [if_neg (fun h => hne h.1), hz]
  have same : 28 ≤ b.length → n = gN b := fun h => n7 (by omega)
  have same2 : 28 ≤ b.length → 28 + n + 1088 + 2 ≤ b.length → m = gM b := fun h h2 => by
    rw [m9 (by omega)]
    unfold gM
    rw [← same h, show 0 + 1 + 1 + 4 + 4 + 8 + 8 + 2 + n + 1088 = 28 + n + 1088 by omega]
  by_cases hK : 28 + n + 1088 + 2 + m + 3309 = b.length
  · have en := same (by omega)
    have em := same2 (by omega) (by omega)
    have hgK : gK b = b.length := by unfold gK; omega
    rcases s10 with ⟨_, e10⟩ | ⟨h10, _⟩
    rotate_left
    · omega
    rw [e10, if_neg (by simp)]
    rw [if_neg (by rw [List.length_drop]; omega)]
    have ec : ((List.getD (List.set [0] 0 (IntKind.i64.wrap r1.1)) 0 0), (List.getD (List.set [0] 0 (IntKind.i64.wrap r2.1)) 0 0), (List.getD (List.set [0] 0 (IntKind.u32.wrap r3.1)) 0 0), (List.getD (List.set [0] 0 (IntKind.u32.wrap r4.1)) 0 0), (List.getD (List.take 1 (List.set (List.set (List.replicate 2 0) 0 r5.1) 1 r6.1)) 0 0), (List.getD (List.drop 1 (List.set (List.set (List.replicate 2 0) 0 r5.1) 1 r6.1)) 0 0), r7.1, r8.1, r9.1, r10.1, ()) = gC b := by
      show (IntKind.i64.wrap r1.1, IntKind.i64.wrap r2.1, IntKind.u32.wrap r3.1, IntKind.u32.wrap r4.1, r5.1, r6.1, r7.1, r8.1, r9.1, r10.1, ()) = gC b
      unfold gC
      rw [wrap_i64 (by omega) (by have := w1 (by omega); omega), wrap_i64 (by omega) (by have := w2 (by omega); omega), wrap_u32' l3.1 (w3 (by omega)), wrap_u32' l4.1 (w4 (by omega)),
        v1 (by omega), v2 (by omega), v3 (by omega), v4 (by omega), v5 (by omega), v6 (by omega), v7 (by omega), v8 (by omega), v9 (by omega), v10 (by omega), num_one (by omega), num_one (by omega), ← en, ← em]
    rw [ec, at_Check (gC_ok hb hl), Option.bind_some]
    by_cases hmay : mayS (gC b) = true
    · rw [if_pos hmay, if_neg (by decide)]
      unfold getS
      rw [if_pos ⟨hgK, hmay⟩]
    · rw [if_neg hmay, if_pos (by decide)]
      unfold getS
      exact congrArg some (if_neg (fun h => hmay h.2)).symm
  · have hgK : gK b ≠ b.length := by
      intro h
      unfold gK at h
      have en := same (by omega)
      have em := same2 (by omega) (by omega)
      omega
    by_cases hbad : r10.2.2.1 = true
    · rw [if_pos hbad]
      exact bad _ rfl hgK
    · rw [if_neg hbad]
      rcases s10 with ⟨h10, e10⟩ | ⟨_, h10⟩
      · rw [e10, if_pos (by rw [List.length_drop]; omega)]
        exact bad _ rfl hgK
      · exact absurd h10 hbad
  where
  wrap_u32' {x : Int} (h0 : 0 ≤ x) (h1 : x ≤ 4294967295) : IntKind.u32.wrap x = x := by simp [IntKind.wrap, IntKind.signed, IntKind.bits]; omega
theorem at_Get {b : List Int} (hb : bytes b) (hl : b.length ≤ 1000000) : g_capsule_Get (b, ()) = some (getS b) := by
  have hM := maxL
  exact Spec_at (ks := p_capsule_Get_ks) (rs := p_capsule_Get_rs) (x := (b, ())) ⟨(wf_b1 (b := b)).2 ⟨by omega, hb⟩, trivial⟩ hl
end Go.Ax.TryP
/-! ### The document's capsule of a form -/
set_option linter.unusedVariables false
namespace Go.Ax.TryP
theorem at_JoinOne' {r : List Int} (h : r.length ≤ 1000000 ∧ bytes r) : g_ref01_Join ([r], ()) = some r := by
  rw [at_Join' ⟨by simp, by rw [one_flat]; exact h.1⟩ (one_row h), one_flat]
theorem at_JoinOne {r : List Int} (h : r.length ≤ 1000000 ∧ bytes r) : g_octet_Join ([r], ()) = some r := by
  rw [at_Join ⟨by simp, by rw [one_flat]; exact h.1⟩ (one_row h), one_flat]
theorem two_num {b : List Int} (hb : bytes b) (i : Nat) : numS (pc b i 2) = ((numS (pc b i 2)).toNat : Int) ∧ (numS (pc b i 2)).toNat ≤ 65535 := by
  have h := num_le (pc_bytes hb i 2) (pc_len b i 2)
  have e : (256 : Int) ^ 2 = 65536 := by decide
  omega
theorem q_ref23_Get : ∀ x r, g_ref23_Get x = some r → ∃ N, p_ref23_Get N x = some r := by
  refine Spec_of (ks := p_ref23_Get_ks) (rs := p_ref23_Get_rs) fun x hw hq => ⟨0, ?_⟩
  obtain ⟨(b : List Int), u⟩ := x
  obtain ⟨_, hb⟩ : b.length ≤ maxLen ∧ bytes b := wf_b1.1 hw.1
  have hl : b.length ≤ 1000000 := hq
  show p_ref23_Get 0 (b, u) = some (getS b)
  have bad : ∀ z : Cp, z = zC → gK b ≠ b.length → some (z, (230 : Int)) = some (getS b) := by
    intro z hz hne
    unfold getS
    rw [if_neg (fun h => hne h.1), hz]
  have row : ∀ i n, (pc b i n).length ≤ 1000000 ∧ bytes (pc b i n) := fun i n => ⟨by have := pc_len2 b i n; omega, pc_bytes hb i n⟩
  have le8 : ∀ i n, n ≤ 8 → (pc b i n).length ≤ 8 := fun i n h => by have := pc_len b i n; omega
  unfold p_ref23_Get
  dsimp only
  by_cases h28 : b.length < 28
  · rw [if_pos (by omega)]
    exact bad _ rfl (by unfold gK; omega)
  rw [if_neg (by omega), if_pos (by omega), if_pos (by omega), show List.take (28 - 26) (List.drop 26 b) = pc b 26 2 from rfl, at_Number (pc_bytes hb _ _) (le8 _ _ (by omega)), Option.bind_some]
  obtain ⟨en, hn⟩ := two_num hb 26
  change numS (pc b 26 2) = (gN b : Int) at en
  change gN b ≤ 65535 at hn
  rw [en, wrap_i64 (x := (gN b : Int)) (by omega) (by omega), wrap_i64 (x := (28 : Int) + (gN b : Int)) (by omega) (by omega)]
  rw [show (28 : Int) + (gN b : Int) = ((28 + gN b : Nat) : Int) by omega, wrap_i64 (x := ((28 + gN b : Nat) : Int) + 1088) (by omega) (by omega), show ((28 + gN b : Nat) : Int) + 1088 = ((28 + gN b + 1088 : Nat) : Int) by omega,
    wrap_i64 (x := ((28 + gN b + 1088 : Nat) : Int) + 2) (by omega) (by omega), show ((28 + gN b + 1088 : Nat) : Int) + 2 = ((28 + gN b + 1088 + 2 : Nat) : Int) by omega]
  simp only [Int.toNat_natCast]
  by_cases h2 : b.length < 28 + gN b + 1088 + 2
  · rw [if_pos (by omega)]
    exact bad _ rfl (by unfold gK; omega)
  rw [if_neg (by omega), if_pos (by omega), if_pos (by omega), if_pos (by omega), if_pos (by omega)]
  rw [show List.take (28 + gN b + 1088 + 2 - (28 + gN b + 1088)) (List.drop (28 + gN b + 1088) b) = pc b (28 + gN b + 1088) 2 by rw [show 28 + gN b + 1088 + 2 - (28 + gN b + 1088) = 2 by omega]; rfl,
    at_Number (pc_bytes hb _ _) (le8 _ _ (by omega)), Option.bind_some]
  obtain ⟨em, hm⟩ := two_num hb (28 + gN b + 1088)
  change numS (pc b (28 + gN b + 1088) 2) = (gM b : Int) at em
  change gM b ≤ 65535 at hm
  rw [em, wrap_i64 (x := (gM b : Int)) (by omega) (by omega), wrap_i64 (x := ((28 + gN b + 1088 + 2 : Nat) : Int) + (gM b : Int)) (by omega) (by omega), show ((28 + gN b + 1088 + 2 : Nat) : Int) + (gM b : Int) = ((28 + gN b + 1088 + 2 + gM b : Nat) : Int) by omega,
    wrap_i64 (x := ((28 + gN b + 1088 + 2 + gM b : Nat) : Int) + 3309) (by omega) (by omega)]
  simp only [Int.toNat_natCast]
  by_cases h3 : b.length = 28 + gN b + 1088 + 2 + gM b + 3309
  rotate_left
  · rw [if_pos (by omega)]
    exact bad _ rfl (by unfold gK; omega)
  have hgK : gK b = b.length := by unfold gK; omega
  have b0 := byte_at hb 0
  have b1 := byte_at hb 1
  have e4 : (256 : Int) ^ 4 = 4294967296 := by decide
  have n2 := num_le (pc_bytes hb 2 4) (pc_len b 2 4)
  have n6 := num_le (pc_bytes hb 6 4) (pc_len b 6 4)
  rw [if_neg (by omega), if_pos (by omega), if_pos (by omega), if_pos (by omega), if_pos (by omega), if_pos (by omega), if_pos (by omega),
    show List.take (6 - 2) (List.drop 2 b) = pc b 2 4 from rfl, at_Number (pc_bytes hb _ _) (le8 _ _ (by omega)), Option.bind_some, if_pos (by omega), if_pos (by omega),
    show List.take (10 - 6) (List.drop 6 b) = pc b 6 4 from rfl, at_Number (pc_bytes hb _ _) (le8 _ _ (by omega)), Option.bind_some, if_pos (by omega), if_pos (by omega),
    show List.take (18 - 10) (List.drop 10 b) = pc b 10 8 from rfl, at_Number (pc_bytes hb _ _) (le8 _ _ (by omega)), Option.bind_some, if_pos (by omega), if_pos (by omega),
    show List.take (26 - 18) (List.drop 18 b) = pc b 18 8 from rfl, at_Number (pc_bytes hb _ _) (le8 _ _ (by omega)), Option.bind_some, if_pos (by omega), if_pos (by omega), if_pos (by omega)]
  rw [show List.take (28 + gN b - 28) (List.drop 28 b) = pc b 28 (gN b) by rw [show 28 + gN b - 28 = gN b by omega]; rfl, at_JoinOne' (row _ _), Option.bind_some, if_pos (by omega), if_pos (by omega), if_pos (by omega), if_pos (by omega),
    show List.take (28 + gN b + 1088 - (28 + gN b)) (List.drop (28 + gN b) b) = pc b (28 + gN b) 1088 by rw [show 28 + gN b + 1088 - (28 + gN b) = 1088 by omega]; rfl, at_JoinOne' (row _ _), Option.bind_some, if_pos (by omega), if_pos (by omega), if_pos (by omega), if_pos (by omega),
    show List.take (28 + gN b + 1088 + 2 + gM b - (28 + gN b + 1088 + 2)) (List.drop (28 + gN b + 1088 + 2) b) = pc b (28 + gN b + 1088 + 2) (gM b) by rw [show 28 + gN b + 1088 + 2 + gM b - (28 + gN b + 1088 + 2) = gM b by omega]; rfl, at_JoinOne' (row _ _), Option.bind_some, if_pos (by omega), if_pos (by omega),
    show List.take (b.length - (28 + gN b + 1088 + 2 + gM b)) (List.drop (28 + gN b + 1088 + 2 + gM b) b) = pc b (28 + gN b + 1088 + 2 + gM b) 3309 by rw [show b.length - (28 + gN b + 1088 + 2 + gM b) = 3309 by omega]; rfl, at_JoinOne' (row _ _), Option.bind_some]
  have ec : ((List.getD (List.set [0] 0 (IntKind.i64.wrap (List.getD b 0 0))) 0 0), (List.getD (List.set [0] 0 (IntKind.i64.wrap (List.getD b 1 0))) 0 0), (List.getD (List.set [0] 0 (IntKind.u32.wrap (numS (pc b 2 4)))) 0 0), (List.getD (List.set [0] 0 (IntKind.u32.wrap (numS (pc b 6 4)))) 0 0), (List.getD (List.take 1 (List.set (List.set (List.replicate 2 0) 0 (numS (pc b 10 8))) 1 (numS (pc b 18 8)))) 0 0), (List.getD (List.drop 1 (List.set (List.set (List.replicate 2 0) 0 (numS (pc b 10 8))) 1 (numS (pc b 18 8)))) 0 0), pc b 28 (gN b), pc b (28 + gN b) 1088, pc b (28 + gN b + 1088 + 2) (gM b), pc b (28 + gN b + 1088 + 2 + gM b) 3309, ()) = gC b := by
    show (IntKind.i64.wrap (List.getD b 0 0), IntKind.i64.wrap (List.getD b 1 0), IntKind.u32.wrap (numS (pc b 2 4)), IntKind.u32.wrap (numS (pc b 6 4)), numS (pc b 10 8), numS (pc b 18 8), pc b 28 (gN b), pc b (28 + gN b) 1088, pc b (28 + gN b + 1088 + 2) (gM b), pc b (28 + gN b + 1088 + 2 + gM b) 3309, ()) = gC b
    unfold gC
    rw [wrap_i64 (by omega) (by omega), wrap_i64 (by omega) (by omega), wrap_u32' n2.1 (by omega), wrap_u32' n6.1 (by omega)]
  rw [ec, at_May' (gC_ok hb hl), Option.bind_some]
  by_cases hmay : mayS (gC b) = true
  · rw [if_neg (by simp [hmay])]
    unfold getS
    rw [if_pos ⟨hgK, hmay⟩]
  · rw [if_pos hmay]
    unfold getS
    exact congrArg some (if_neg (fun h => hmay h.2)).symm
  where
  wrap_u32' {x : Int} (h0 : 0 ≤ x) (h1 : x ≤ 4294967295) : IntKind.u32.wrap x = x := by simp [IntKind.wrap, IntKind.signed, IntKind.bits]; omega
theorem at_Get' {b : List Int} (hb : bytes b) (hl : b.length ≤ 1000000) : g_ref23_Get (b, ()) = some (getS b) := by
  have hM := maxL
  exact Spec_at (ks := p_ref23_Get_ks) (rs := p_ref23_Get_rs) (x := (b, ())) ⟨(wf_b1 (b := b)).2 ⟨by omega, hb⟩, trivial⟩ hl
end Go.Ax.TryP
/-! ### The laws: what is read, and back -/
set_option linter.unusedVariables false
namespace Go.Ax.TryP
theorem getS_ok {b : List Int} (hb : bytes b) (hl : b.length ≤ 1000000) : cpOk (getS b).1 := by
  have hM := maxL
  unfold getS
  split
  · exact gC_ok hb hl
  · refine ⟨by decide, by decide, by decide, by decide, by decide, by decide, ⟨Nat.zero_le _, ?_⟩, ⟨Nat.zero_le _, ?_⟩, ⟨Nat.zero_le _, ?_⟩, Nat.zero_le _, ?_⟩ <;> exact fun z hz => by cases hz
theorem q_law23_CapsuleGets : ∀ x r, g_law23_CapsuleGets x = some r → ∃ N, p_law23_CapsuleGets N x = some r := by
  refine Spec_of (ks := p_law23_CapsuleGets_ks) (rs := p_law23_CapsuleGets_rs) fun x hw hq => ?_
  obtain ⟨(b : List Int), u⟩ := x
  obtain ⟨_, hb⟩ : b.length ≤ maxLen ∧ bytes b := wf_b1.1 hw.1
  refine ⟨b.length + 1, ?_⟩
  show p_law23_CapsuleGets (b.length + 1) (b, u) = some true
  unfold p_law23_CapsuleGets
  dsimp only
  rw [at_live, Option.bind_some, if_neg (by simp)]
  by_cases hl : b.length > 90000
  · rw [if_pos (by omega), Option.bind_some]; rfl
  have hl2 : b.length ≤ 1000000 := by omega
  have hM := maxL
  rw [if_neg (by omega), at_JoinOne' ⟨hl2, hb⟩, Option.bind_some, at_Get hb hl2, Option.bind_some, at_Get' hb hl2, Option.bind_some, at_Equal2 ⟨by omega, hb⟩ ⟨by omega, hb⟩, Option.bind_some, if_neg (by simp)]
  refine (iter_from (F := p_law23_CapsuleGets_l9_F (b.length + 1)) (s := fun i => (b.length, (getS b).2, (getS b).2, (b.length : Int), (i : Int), b.length, part (fun j => (b.getD j 0 + 1) % 256) i b, ((getS b).1.1, (getS b).1.2.1, (getS b).1.2.2.1, (getS b).1.2.2.2.1, (getS b).1.2.2.2.2.1, (getS b).1.2.2.2.2.2.1, (List.length (getS b).1.2.2.2.2.2.2.1), (List.length (getS b).1.2.2.2.2.2.2.2.1), (List.length (getS b).1.2.2.2.2.2.2.2.2.1), (List.length (getS b).1.2.2.2.2.2.2.2.2.2.1), (getS b).1.1, (getS b).1.2.1, (getS b).1.2.2.1, (getS b).1.2.2.2.1, (getS b).1.2.2.2.2.1, (getS b).1.2.2.2.2.2.1, (List.length (getS b).1.2.2.2.2.2.2.1), (List.length (getS b).1.2.2.2.2.2.2.2.1), (List.length (getS b).1.2.2.2.2.2.2.2.2.1), (List.length (getS b).1.2.2.2.2.2.2.2.2.2.1), (List.length (getS b).1.2.2.2.2.2.2.1), (getS b).1.2.2.2.2.2.2.1, (List.length (getS b).1.2.2.2.2.2.2.2.1), (getS b).1.2.2.2.2.2.2.2.1, (List.length (getS b).1.2.2.2.2.2.2.2.2.1), (getS b).1.2.2.2.2.2.2.2.2.1, (List.length (getS b).1.2.2.2.2.2.2.2.2.2.1), (getS b).1.2.2.2.2.2.2.2.2.2.1, (List.length (getS b).1.2.2.2.2.2.2.1), (getS b).1.2.2.2.2.2.2.1, (List.length (getS b).1.2.2.2.2.2.2.2.1), (getS b).1.2.2.2.2.2.2.2.1, (List.length (getS b).1.2.2.2.2.2.2.2.2.1), (getS b).1.2.2.2.2.2.2.2.2.1, (List.length (getS b).1.2.2.2.2.2.2.2.2.2.1), (getS b).1.2.2.2.2.2.2.2.2.2.1, ())))
    (y := ((getS b).2, (getS b).2, ((getS b).1.1, (getS b).1.2.1, (getS b).1.2.2.1, (getS b).1.2.2.2.1, (getS b).1.2.2.2.2.1, (getS b).1.2.2.2.2.2.1, (List.length (getS b).1.2.2.2.2.2.2.1), (List.length (getS b).1.2.2.2.2.2.2.2.1), (List.length (getS b).1.2.2.2.2.2.2.2.2.1), (List.length (getS b).1.2.2.2.2.2.2.2.2.2.1), (getS b).1.1, (getS b).1.2.1, (getS b).1.2.2.1, (getS b).1.2.2.2.1, (getS b).1.2.2.2.2.1, (getS b).1.2.2.2.2.2.1, (List.length (getS b).1.2.2.2.2.2.2.1), (List.length (getS b).1.2.2.2.2.2.2.2.1), (List.length (getS b).1.2.2.2.2.2.2.2.2.1), (List.length (getS b).1.2.2.2.2.2.2.2.2.2.1), (List.length (getS b).1.2.2.2.2.2.2.1), (getS b).1.2.2.2.2.2.2.1, (List.length (getS b).1.2.2.2.2.2.2.2.1), (getS b).1.2.2.2.2.2.2.2.1, (List.length (getS b).1.2.2.2.2.2.2.2.2.1), (getS b).1.2.2.2.2.2.2.2.2.1, (List.length (getS b).1.2.2.2.2.2.2.2.2.2.1), (getS b).1.2.2.2.2.2.2.2.2.2.1, (List.length (getS b).1.2.2.2.2.2.2.1), (getS b).1.2.2.2.2.2.2.1, (List.length (getS b).1.2.2.2.2.2.2.2.1), (getS b).1.2.2.2.2.2.2.2.1, (List.length (getS b).1.2.2.2.2.2.2.2.2.1), (getS b).1.2.2.2.2.2.2.2.2.1, (List.length (getS b).1.2.2.2.2.2.2.2.2.2.1), (getS b).1.2.2.2.2.2.2.2.2.2.1, ()))) b.length ?_ ?_ ?_ _ (by omega)).trans ?_
  · rw [part_zero]; rfl
  · intro i hi kn
    have hz := byte_at hb i
    unfold p_law23_CapsuleGets_l9_F
    dsimp only
    rw [if_pos (by omega), if_pos (by omega), if_pos (by omega), Int.toNat_natCast, if_pos (by omega), if_pos (by omega), if_pos (by omega), if_pos (by omega), wrap_i64 (by omega) (by omega), part_getD (Nat.le_refl i), wrap_u8_mod,
      part_set' (h := fun j => (b.getD j 0 + 1) % 256) hi rfl]
    rfl
  · intro kn
    unfold p_law23_CapsuleGets_l9_F
    dsimp only
    rw [if_neg (by omega)]
  · have hc := getS_ok hb hl2
    have e : sameS (getS b).1 (getS b).1 = true := sameS_iff.2 rfl
    refine (congrArg (fun o => Option.bind o _) (show _ = some (sameS (getS b).1 (getS b).1) from at_ref23_Same hc hc)).trans ?_
    rw [Option.bind_some, if_pos e]
    simp
theorem inner_len {c : Cp} (h : wordedS c = true) : (saidS c).length = 28 + c.2.2.2.2.2.2.1.length := by
  unfold saidS
  simp only [List.length_append, bigS_len, List.length_cons, List.length_nil]
theorem pc_app {a b c : List Int} {i n : Nat} (ha : a.length = i) (hb : b.length = n) : pc (a ++ (b ++ c)) i n = b := by
  unfold pc
  rw [List.drop_append_of_le_length (by omega), List.drop_of_length_le (by omega), List.nil_append, List.take_append_of_le_length (by omega), List.take_of_length_le (by omega)]
theorem num_big4 {n : Int} (h : 0 ≤ n ∧ n ≤ 4294967295) : numS (bigS n 4) = n := numS_bigS 4 n h.1 (by rw [show (256 : Int) ^ 4 = 4294967296 by decide]; omega)
theorem num_big8 {n : Int} (h : 0 ≤ n ∧ n ≤ 18446744073709551615) : numS (bigS n 8) = n := numS_bigS 8 n h.1 (by rw [show (256 : Int) ^ 8 = 18446744073709551616 by decide]; omega)
theorem num_big2 {n : Nat} (h : n ≤ 65535) : (numS (bigS (n : Int) 2)).toNat = n := by rw [numS_bigS 2 (n : Int) (by omega) (by rw [show (256 : Int) ^ 2 = 65536 by decide]; omega)]; omega
end Go.Ax.TryP
/-! ### What is written is read as it was, what is read is written as it stood -/
set_option linter.unusedVariables false
namespace Go.Ax.TryP
theorem pcL {a b : List Int} {i n : Nat} (h : i + n ≤ a.length) : pc (a ++ b) i n = pc a i n := by
  unfold pc
  rw [List.drop_append_of_le_length (by omega), List.take_append_of_le_length (by rw [List.length_drop]; omega)]
theorem pcR {a b : List Int} {i n : Nat} (ha : a.length = i) (hb : b.length = n) : pc (a ++ b) i n = b := by
  unfold pc
  rw [List.drop_append_of_le_length (by omega), List.drop_of_length_le (by omega), List.nil_append, List.take_of_length_le (by omega)]
theorem pc_cat {b : List Int} {i n m : Nat} : pc b i n ++ pc b (i + n) m = pc b i (n + m) := by
  unfold pc
  rw [List.take_add, List.drop_drop]
theorem pc_full {b : List Int} {i n : Nat} (h : i + n ≤ b.length) : (pc b i n).length = n := by
  unfold pc; rw [List.length_take, List.length_drop]; omega
theorem bigS_numS : ∀ (n : Nat) (c : List Int), c.length = n → bytes c → bigS (numS c) n = c
  | 0, c, h, _ => by have : c = [] := List.eq_nil_of_length_eq_zero h; subst this; rfl
  | n + 1, c, h, hb => by
    have e : c = c.take n ++ [c.getD n 0] := by rw [← take_snoc (by omega), List.take_of_length_le (by omega)]
    have hz := byte_at hb n
    have ih := bigS_numS n (c.take n) (by rw [List.length_take]; omega) (take_bytes hb n)
    rw [e, numS_snoc, bigS_succ, show (numS (c.take n) * 256 + c.getD n 0) / 256 = numS (c.take n) by omega, show (numS (c.take n) * 256 + c.getD n 0) % 256 = c.getD n 0 by omega, ih]
theorem get_put {c : Cp} (hc : cpOk c) (hm : mayS c = true) : getS (putS c).1 = (c, 0) := by
  obtain ⟨hw, hs⟩ := may_len hm
  obtain ⟨h1, h2, h3, h4, h5⟩ := worded_len hw
  obtain ⟨d1, d2⟩ := spoken_dev h1
  obtain ⟨_, _, c3, c4, c5, c6, _⟩ := hc
  have ef : (putS c).1 = innerS c ++ c.2.2.2.2.2.2.2.2.2.1 := by unfold putS; rw [if_pos hm]
  rw [ef]
  have l2 : ([c.1 % 256, c.2.1 % 256] : List Int).length = 2 := rfl
  have p26 : pc (innerS c ++ c.2.2.2.2.2.2.2.2.2.1) 26 2 = bigS (c.2.2.2.2.2.2.1.length : Int) 2 := by
    unfold innerS saidS
    rw [pcL, pcL, pcL, pcL, pcL, pcR] <;> (try simp only [List.length_append, bigS_len, l2]) <;> omega
  have eN : gN (innerS c ++ c.2.2.2.2.2.2.2.2.2.1) = c.2.2.2.2.2.2.1.length := by unfold gN; rw [p26, num_big2 (by omega)]
  have pM : pc (innerS c ++ c.2.2.2.2.2.2.2.2.2.1) (28 + c.2.2.2.2.2.2.1.length + 1088) 2 = bigS (c.2.2.2.2.2.2.2.2.1.length : Int) 2 := by
    unfold innerS saidS
    rw [pcL, pcL, pcR] <;> (try simp only [List.length_append, bigS_len, l2]) <;> omega
  have eM : gM (innerS c ++ c.2.2.2.2.2.2.2.2.2.1) = c.2.2.2.2.2.2.2.2.1.length := by unfold gM; rw [eN, pM, num_big2 (by omega)]
  have eK : gK (innerS c ++ c.2.2.2.2.2.2.2.2.2.1) = (innerS c ++ c.2.2.2.2.2.2.2.2.2.1).length := by
    unfold gK
    rw [eN, eM]
    unfold innerS saidS
    simp only [List.length_append, bigS_len, l2]
    omega
  have p2 : pc (innerS c ++ c.2.2.2.2.2.2.2.2.2.1) 2 4 = bigS c.2.2.1 4 := by
    unfold innerS saidS
    rw [pcL, pcL, pcL, pcL, pcL, pcL, pcL, pcL, pcL, pcR] <;> (try simp only [List.length_append, bigS_len, l2]) <;> omega
  have p6 : pc (innerS c ++ c.2.2.2.2.2.2.2.2.2.1) 6 4 = bigS c.2.2.2.1 4 := by
    unfold innerS saidS
    rw [pcL, pcL, pcL, pcL, pcL, pcL, pcL, pcL, pcR] <;> (try simp only [List.length_append, bigS_len, l2]) <;> omega
  have p10 : pc (innerS c ++ c.2.2.2.2.2.2.2.2.2.1) 10 8 = bigS c.2.2.2.2.1 8 := by
    unfold innerS saidS
    rw [pcL, pcL, pcL, pcL, pcL, pcL, pcL, pcR] <;> (try simp only [List.length_append, bigS_len, l2]) <;> omega
  have p18 : pc (innerS c ++ c.2.2.2.2.2.2.2.2.2.1) 18 8 = bigS c.2.2.2.2.2.1 8 := by
    unfold innerS saidS
    rw [pcL, pcL, pcL, pcL, pcL, pcL, pcR] <;> (try simp only [List.length_append, bigS_len, l2]) <;> omega
  have p28 : pc (innerS c ++ c.2.2.2.2.2.2.2.2.2.1) 28 c.2.2.2.2.2.2.1.length = c.2.2.2.2.2.2.1 := by
    unfold innerS saidS
    rw [pcL, pcL, pcL, pcL, pcR] <;> (try simp only [List.length_append, bigS_len, l2]) <;> omega
  have pCt : pc (innerS c ++ c.2.2.2.2.2.2.2.2.2.1) (28 + c.2.2.2.2.2.2.1.length) 1088 = c.2.2.2.2.2.2.2.1 := by
    unfold innerS saidS
    rw [pcL, pcL, pcL, pcR] <;> (try simp only [List.length_append, bigS_len, l2]) <;> omega
  have pSe : pc (innerS c ++ c.2.2.2.2.2.2.2.2.2.1) (28 + c.2.2.2.2.2.2.1.length + 1088 + 2) c.2.2.2.2.2.2.2.2.1.length = c.2.2.2.2.2.2.2.2.1 := by
    unfold innerS saidS
    rw [pcL, pcR] <;> (try simp only [List.length_append, bigS_len, l2]) <;> omega
  have pSi : pc (innerS c ++ c.2.2.2.2.2.2.2.2.2.1) (28 + c.2.2.2.2.2.2.1.length + 1088 + 2 + c.2.2.2.2.2.2.2.2.1.length) 3309 = c.2.2.2.2.2.2.2.2.2.1 := by
    unfold innerS saidS
    rw [pcR] <;> (try simp only [List.length_append, bigS_len, l2]) <;> omega
  have g0 : (innerS c ++ c.2.2.2.2.2.2.2.2.2.1).getD 0 0 = c.1 % 256 := rfl
  have g1 : (innerS c ++ c.2.2.2.2.2.2.2.2.2.1).getD 1 0 = c.2.1 % 256 := rfl
  have eC : gC (innerS c ++ c.2.2.2.2.2.2.2.2.2.1) = c := by
    unfold gC
    rw [eN, eM, p2, p6, p10, p18, p28, pCt, pSe, pSi, g0, g1, num_big4 c3, num_big4 c4, num_big8 c5, num_big8 c6, Int.emod_eq_of_lt d1.1 (by omega), Int.emod_eq_of_lt d2.1 (by omega)]
  unfold getS
  rw [eC, if_pos ⟨eK, hm⟩]
theorem put_get {b : List Int} (hb : bytes b) (hl : b.length ≤ 1000000) (h : (getS b).2 = 0) : putS (getS b).1 = (b, 0) := by
  unfold getS at h ⊢
  by_cases hg : gK b = b.length ∧ mayS (gC b) = true
  rotate_left
  · rw [if_neg hg] at h; cases h
  rw [if_pos hg]
  obtain ⟨hK, hm⟩ := hg
  unfold gK at hK
  obtain ⟨en, hn⟩ := two_num hb 26
  change numS (pc b 26 2) = (gN b : Int) at en
  obtain ⟨em, hmm⟩ := two_num hb (28 + gN b + 1088)
  change numS (pc b (28 + gN b + 1088) 2) = (gM b : Int) at em
  have b0 := byte_at hb 0
  have b1 := byte_at hb 1
  unfold putS
  rw [if_pos hm]
  have big : ∀ i n, i + n ≤ b.length → bigS (numS (pc b i n)) n = pc b i n := fun i n h => bigS_numS n _ (pc_full h) (pc_bytes hb i n)
  have e2 : [b.getD 0 0 % 256, b.getD 1 0 % 256] = pc b 0 2 := by
    rw [Int.emod_eq_of_lt b0.1 (by omega), Int.emod_eq_of_lt b1.1 (by omega)]
    unfold pc
    rw [List.drop_zero, take_snoc (show 1 < b.length by omega), take_snoc (show 0 < b.length by omega)]
    rfl
  have eN : bigS ((pc b 28 (gN b)).length : Int) 2 = pc b 26 2 := by rw [pc_full (by omega), ← en, big 26 2 (by omega)]
  have eM : bigS ((pc b (28 + gN b + 1088 + 2) (gM b)).length : Int) 2 = pc b (28 + gN b + 1088) 2 := by rw [pc_full (by omega), ← em, big _ 2 (by omega)]
  have key : innerS (gC b) ++ pc b (28 + gN b + 1088 + 2 + gM b) 3309 = b := by
    unfold innerS saidS gC
    dsimp only
    rw [e2, eN, eM, big 2 4 (by omega), big 6 4 (by omega), big 10 8 (by omega), big 18 8 (by omega)]
    have k1 : pc b 0 2 ++ pc b 2 4 = pc b 0 (2 + 4) := pc_cat (b := b) (i := 0) (n := 2) (m := 4)
    have k2 : pc b 0 (2 + 4) ++ pc b 6 4 = pc b 0 (2 + 4 + 4) := pc_cat (b := b) (i := 0) (n := 6) (m := 4)
    have k3 : pc b 0 (2 + 4 + 4) ++ pc b 10 8 = pc b 0 (2 + 4 + 4 + 8) := pc_cat (b := b) (i := 0) (n := 10) (m := 8)
    have k4 : pc b 0 (2 + 4 + 4 + 8) ++ pc b 18 8 = pc b 0 (2 + 4 + 4 + 8 + 8) := pc_cat (b := b) (i := 0) (n := 18) (m := 8)
    have k5 : pc b 0 (2 + 4 + 4 + 8 + 8) ++ pc b 26 2 = pc b 0 28 := pc_cat (b := b) (i := 0) (n := 26) (m := 2)
    have k6 : pc b 0 28 ++ pc b 28 (gN b) = pc b 0 (28 + gN b) := by have := pc_cat (b := b) (i := 0) (n := 28) (m := gN b); rwa [Nat.zero_add] at this
    have k7 : pc b 0 (28 + gN b) ++ pc b (28 + gN b) 1088 = pc b 0 (28 + gN b + 1088) := by have := pc_cat (b := b) (i := 0) (n := 28 + gN b) (m := 1088); rwa [Nat.zero_add] at this
    have k8 : pc b 0 (28 + gN b + 1088) ++ pc b (28 + gN b + 1088) 2 = pc b 0 (28 + gN b + 1088 + 2) := by have := pc_cat (b := b) (i := 0) (n := 28 + gN b + 1088) (m := 2); rwa [Nat.zero_add] at this
    have k9 : pc b 0 (28 + gN b + 1088 + 2) ++ pc b (28 + gN b + 1088 + 2) (gM b) = pc b 0 (28 + gN b + 1088 + 2 + gM b) := by have := pc_cat (b := b) (i := 0) (n := 28 + gN b + 1088 + 2) (m := gM b); rwa [Nat.zero_add] at this
    have k10 : pc b 0 (28 + gN b + 1088 + 2 + gM b) ++ pc b (28 + gN b + 1088 + 2 + gM b) 3309 = pc b 0 (28 + gN b + 1088 + 2 + gM b + 3309) := by have := pc_cat (b := b) (i := 0) (n := 28 + gN b + 1088 + 2 + gM b) (m := 3309); rwa [Nat.zero_add] at this
    rw [k1, k2, k3, k4, k5, k6, k7, k8, k9, k10, hK]
    unfold pc
    rw [List.drop_zero, List.take_length]
  exact Prod.ext key rfl
theorem q_law23_CapsuleBack : ∀ x r, g_law23_CapsuleBack x = some r → ∃ N, p_law23_CapsuleBack N x = some r := by
  refine Spec_of (ks := p_law23_CapsuleBack_ks) (rs := p_law23_CapsuleBack_rs) fun x hw hq => ⟨0, ?_⟩
  obtain ⟨(c : Cp), (b : List Int), u⟩ := x
  have hc : cpOk c := wf_cp.1 hw.1
  obtain ⟨_, hb⟩ : b.length ≤ maxLen ∧ bytes b := wf_b1.1 hw.2.1
  have hM := maxL
  show p_law23_CapsuleBack 0 (c, b, u) = some true
  unfold p_law23_CapsuleBack
  dsimp only
  simp only [cp_eta]
  rw [at_live, Option.bind_some, if_neg (by simp), at_bigB hc, Option.bind_some]
  by_cases b1 : bigB c = true
  · rw [if_pos b1, Option.bind_some]; rfl
  rw [if_neg b1]
  by_cases hl : b.length > 90000
  · rw [if_pos (by omega), Option.bind_some]; rfl
  have hl2 : b.length ≤ 1000000 := by omega
  have hg := getS_ok hb hl2
  have tail : ∀ (K : Cp × Int → Option Bool), K (getS b) = some true → (g_capsule_Get (b, ())).bind K = some true := fun K hK => by rw [at_Get hb hl2, Option.bind_some]; exact hK
  have rest : (if (getS b).2 ≠ (0 : Int) then (g_ref23_Same ((getS b).1, zC, ())).bind fun r => some (decide (r = true))
      else (g_capsule_Put ((getS b).1, ())).bind fun r => if r.2 = (0 : Int) then (g_ref01_Equal (r.1, b, ())).bind fun q => some (decide (q = true)) else some false) = some true := by
    by_cases h : (getS b).2 = 0
    · rw [if_neg (by simp [h]), at_Put hg, Option.bind_some, put_get hb hl2 h, if_pos rfl, at_Equal2 ⟨by omega, hb⟩ ⟨by omega, hb⟩, Option.bind_some]
      simp
    · rw [if_pos h]
      have hz : (getS b).1 = zC := by
        unfold getS at h ⊢
        split
        · rename_i h2; rw [if_pos h2] at h; exact absurd rfl h
        · rfl
      have hzc : cpOk zC := by rw [← hz]; exact hg
      rw [hz, at_ref23_Same hzc hzc, Option.bind_some, sameS_iff.2 rfl]
      rfl
  rw [if_neg (by omega), at_Put hc, Option.bind_some]
  by_cases hm : mayS c = true
  · have e2 : (putS c).2 = 0 := by unfold putS; rw [if_pos hm]
    have hp := put_ok hc
    have hpl : (putS c).1.length ≤ 1000000 := by
      obtain ⟨k1, k2⟩ := may_len hm
      obtain ⟨g1, g2⟩ := inner_ok hc k1
      unfold putS
      rw [if_pos hm]
      show (innerS c ++ _).length ≤ _
      rw [List.length_append]; omega
    rw [if_pos e2, at_Get hp.2 hpl, Option.bind_some, get_put hc hm, if_neg (by simp)]
    refine (congrArg (fun o => Option.bind o _) (show _ = some (sameS c c) from at_ref23_Same hc hc)).trans ?_
    rw [Option.bind_some, sameS_iff.2 rfl, if_neg (by simp)]
    exact tail _ rest
  · have e2 : (putS c).2 = 230 := by unfold putS; rw [if_neg hm]
    rw [if_neg (by rw [e2]; decide)]
    exact tail _ rest
end Go.Ax.TryP
/-! Printed by program (wires.py): the functions keep their signatures. -/
namespace Go.Ax.TryP
theorem s_octet_BigOf : SigOk Go.Proofs.Try.prog 48 ⟨[.sl (.int .u8)], [.int .u64, .int .i64], g_octet_BigOf⟩ := p_octet_BigOf_ok q_octet_BigOf
theorem s_ref01_Number : SigOk Go.Proofs.Try.prog 41 ⟨[.sl (.int .u8)], [.int .u64], g_ref01_Number⟩ := p_ref01_Number_ok q_ref01_Number
theorem s_capsule_reader_take : SigOk Go.Proofs.Try.prog 40 ⟨[.io [.fs (.int .u8), .bool], .int .i64], [.sl (.int .u8), .cat [.fs (.int .u8), .bool]], g_capsule_reader_take⟩ := p_capsule_reader_take_ok s_octet_Join q_capsule_reader_take
theorem s_capsule_reader_number : SigOk Go.Proofs.Try.prog 38 ⟨[.io [.fs (.int .u8), .bool], .int .i64], [.int .u64, .cat [.fs (.int .u8), .bool]], g_capsule_reader_number⟩ := p_capsule_reader_number_ok s_capsule_reader_take s_octet_BigOf q_capsule_reader_number
theorem s_capsule_reader_text : SigOk Go.Proofs.Try.prog 39 ⟨[.io [.fs (.int .u8), .bool], .int .i64], [.sl (.int .u8), .cat [.fs (.int .u8), .bool]], g_capsule_reader_text⟩ := p_capsule_reader_text_ok s_capsule_reader_number s_capsule_reader_take q_capsule_reader_text
theorem s_capsule_Get : SigOk Go.Proofs.Try.prog 26 ⟨[.fsl (.int .u8)], [.cat [.int .i64, .int .i64, .int .u32, .int .u32, .int .u64, .int .u64, .sl (.int .u8), .sl (.int .u8), .sl (.int .u8), .sl (.int .u8)], .int .i64], g_capsule_Get⟩ := p_capsule_Get_ok s_capsule_reader_number s_capsule_reader_text s_capsule_reader_take s_capsule_Check q_capsule_Get
theorem s_ref23_Get : SigOk Go.Proofs.Try.prog 27 ⟨[.fsl (.int .u8)], [.cat [.int .i64, .int .i64, .int .u32, .int .u32, .int .u64, .int .u64, .sl (.int .u8), .sl (.int .u8), .sl (.int .u8), .sl (.int .u8)], .int .i64], g_ref23_Get⟩ := p_ref23_Get_ok s_ref01_Number s_ref01_Join s_ref23_May q_ref23_Get
theorem s_law23_CapsuleGets : SigOk Go.Proofs.Try.prog 6 ⟨[.sl (.int .u8)], [.bool], g_law23_CapsuleGets⟩ := p_law23_CapsuleGets_ok s_law23_live s_ref01_Join s_capsule_Get s_ref23_Get s_ref01_Equal s_ref23_Same q_law23_CapsuleGets
theorem s_law23_CapsuleBack : SigOk Go.Proofs.Try.prog 7 ⟨[.cat [.int .i64, .int .i64, .int .u32, .int .u32, .int .u64, .int .u64, .sl (.int .u8), .sl (.int .u8), .sl (.int .u8), .sl (.int .u8)], .sl (.int .u8)], [.bool], g_law23_CapsuleBack⟩ := p_law23_CapsuleBack_ok s_law23_live s_law23_big s_capsule_Put s_capsule_Get s_ref23_Same s_ref01_Equal q_law23_CapsuleBack
end Go.Ax.TryP
