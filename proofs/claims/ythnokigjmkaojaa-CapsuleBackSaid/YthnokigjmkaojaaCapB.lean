/- A part of the proof: CapS2, CapP2, CapQ6, CapQ7, CapQ8, CapW2. -/
import Derived.Test.YthnokigjmkaojaaCapA
/-! ### Capsules as bytes: what the functions answer -/
namespace Go.Ax.TryP
abbrev cpL : List FK := [.int .i64, .int .i64, .int .u32, .int .u32, .int .u64, .int .u64, .sl (.int .u8), .sl (.int .u8), .sl (.int .u8), .sl (.int .u8)]
noncomputable def g_octet_Same : List Int × List Int × Unit → Option Bool := Spec (ks := [.sl (.int .u8), .sl (.int .u8)]) (rs := [.bool]) (fun _ => True) fun x => decide (x.1 = x.2.1)
def bigB (c : Cp) : Bool := decide (9000 < c.2.2.2.2.2.2.1.length) || decide (9000 < c.2.2.2.2.2.2.2.1.length) || decide (9000 < c.2.2.2.2.2.2.2.2.1.length) || decide (9000 < c.2.2.2.2.2.2.2.2.2.1.length)
noncomputable def g_law23_big : Cp × Unit → Option Bool := Spec (ks := [.cat cpL]) (rs := [.bool]) (fun _ => True) fun x => bigB x.1
noncomputable def g_ref19_One : (Int × Int × Unit) × Unit → Option Bool := Spec (ks := [.cat [.int .u64, .int .u64]]) (rs := [.bool]) (fun _ => True) fun x => oneS x.1.1 x.1.2.1
noncomputable def g_ref23_spoken : Cp × Unit → Option Bool := Spec (ks := [.cat cpL]) (rs := [.bool]) (fun _ => True) fun x => spokenS x.1
noncomputable def g_ref01_Big : Int × Int × Unit → Option (List Int) := Spec (ks := [.int .u64, .int .i64]) (rs := [.sl (.int .u8)]) (fun x => 0 ≤ x.2.1 ∧ x.2.1 ≤ 8) fun x => bigS x.1 x.2.1.toNat
noncomputable def g_ref23_text : List Int × Unit → Option (List Int) := Spec (ks := [.sl (.int .u8)]) (rs := [.sl (.int .u8)]) (fun x => x.1.length ≤ 60000) fun x => bigS (x.1.length : Int) 2 ++ x.1
noncomputable def g_ref23_Said : Cp × Unit → Option (List Int) := Spec (ks := [.cat cpL]) (rs := [.sl (.int .u8)]) (fun _ => True) fun x => if spokenS x.1 = true then saidS x.1 else []
def wordedS (c : Cp) : Bool := spokenS c && decide (c.2.2.2.2.2.2.2.1.length = 1088 ∧ 33 ≤ c.2.2.2.2.2.2.2.2.1.length ∧ c.2.2.2.2.2.2.2.2.1.length ≤ 288)
def mayS (c : Cp) : Bool := wordedS c && decide (c.2.2.2.2.2.2.2.2.2.1.length = 3309)
noncomputable def g_ref23_worded : Cp × Unit → Option Bool := Spec (ks := [.cat cpL]) (rs := [.bool]) (fun _ => True) fun x => wordedS x.1
noncomputable def g_capsule_worded : Cp × Unit → Option Bool := Spec (ks := [.cat cpL]) (rs := [.bool]) (fun _ => True) fun x => wordedS x.1
noncomputable def g_ref23_May : Cp × Unit → Option Bool := Spec (ks := [.cat cpL]) (rs := [.bool]) (fun _ => True) fun x => mayS x.1
noncomputable def g_capsule_Check : Cp × Unit → Option Int := Spec (ks := [.cat cpL]) (rs := [.int .i64]) (fun _ => True) fun x => if mayS x.1 = true then 0 else 230
def titleS : List Int := [108, 105, 118, 101, 114, 121, 32, 99, 97, 112, 115, 117, 108, 101]
def innerS (c : Cp) : List Int := saidS c ++ c.2.2.2.2.2.2.2.1 ++ bigS (c.2.2.2.2.2.2.2.2.1.length : Int) 2 ++ c.2.2.2.2.2.2.2.2.1
noncomputable def g_capsule_inner : Cp × Unit → Option (List Int) := Spec (ks := [.cat cpL]) (rs := [.sl (.int .u8)]) (fun x => x.1.2.2.2.2.2.2.1.length ≤ 60000 ∧ x.1.2.2.2.2.2.2.2.1.length ≤ 60000 ∧ x.1.2.2.2.2.2.2.2.2.1.length ≤ 60000) fun x => innerS x.1
noncomputable def g_capsule_Words : Cp × Unit → Option (List Int) := Spec (ks := [.cat cpL]) (rs := [.sl (.int .u8)]) (fun _ => True) fun x => if wordedS x.1 = true then titleS ++ innerS x.1 else []
noncomputable def g_ref23_Words : Cp × Unit → Option (List Int) := Spec (ks := [.cat cpL]) (rs := [.sl (.int .u8)]) (fun _ => True) fun x => if wordedS x.1 = true then titleS ++ innerS x.1 else []
def putS (c : Cp) : List Int × Int := if mayS c = true then (innerS c ++ c.2.2.2.2.2.2.2.2.2.1, 0) else ([], 230)
noncomputable def g_capsule_Put : Cp × Unit → Option (List Int × Int) := Spec (ks := [.cat cpL]) (rs := [.sl (.int .u8), .int .i64]) (fun _ => True) fun x => putS x.1
noncomputable def g_ref23_Put : Cp × Unit → Option (List Int × Int) := Spec (ks := [.cat cpL]) (rs := [.sl (.int .u8), .int .i64]) (fun _ => True) fun x => putS x.1
def sameS (c d : Cp) : Bool := decide (c.1 = d.1) && decide (c.2.1 = d.2.1) && decide (c.2.2.1 = d.2.2.1) && decide (c.2.2.2.1 = d.2.2.2.1) && decide (c.2.2.2.2.1 = d.2.2.2.2.1) && decide (c.2.2.2.2.2.1 = d.2.2.2.2.2.1) && decide (c.2.2.2.2.2.2.1 = d.2.2.2.2.2.2.1) && decide (c.2.2.2.2.2.2.2.1 = d.2.2.2.2.2.2.2.1) && decide (c.2.2.2.2.2.2.2.2.1 = d.2.2.2.2.2.2.2.2.1) && decide (c.2.2.2.2.2.2.2.2.2.1 = d.2.2.2.2.2.2.2.2.2.1)
noncomputable def g_capsule_Same : Cp × Cp × Unit → Option Bool := Spec (ks := [.cat cpL, .cat cpL]) (rs := [.bool]) (fun _ => True) fun x => sameS x.1 x.2.1
noncomputable def g_ref23_Same : Cp × Cp × Unit → Option Bool := Spec (ks := [.cat cpL, .cat cpL]) (rs := [.bool]) (fun _ => True) fun x => sameS x.1 x.2.1
noncomputable def g_law23_CapsulePuts : Cp × Cp × Unit → Option Bool := Spec (ks := [.cat cpL, .cat cpL]) (rs := [.bool]) (fun _ => True) fun _ => true
noncomputable def g_law23_CapsuleApart : Cp × Cp × Unit → Option Bool := Spec (ks := [.cat cpL, .cat cpL]) (rs := [.bool]) (fun _ => True) fun _ => true
end Go.Ax.TryP
/-! Printed by program (gen.py). -/
set_option linter.unusedVariables false
namespace Go.Ax.TryP
/-! livery/octet.Same -/
noncomputable def p_octet_Same_E : AE := AE.of [(5, ty5), (22, ty22)] []
noncomputable def p_octet_Same_H : Hints := [(5, [0, 1, 5, 13, 14]), (2000000, [5]), (2000001, [0, 1, 5, 13, 14]), (3000000, [4])]
noncomputable def p_octet_Same_c : Code := (Go.Proofs.Try.f32).body.getD .skip
noncomputable def p_octet_Same_l5_S : Shape where
  h := { tmps := [.sc (.vec 0 none 1), .sc (.vec 1 none 1), .any, .any, .any, .sc (.int .u8), .any, .any, .any, .any, .any, .any, .any, .sc (.int .i64), .sc (.int .i64), .any, .any, .any, .any, .any, .any, .any, .any, .any, .any, .any, .any, .any, .any, .any, .any], mem := [.live [.xs (.int .u8) none] (.ro), .live [.xs (.int .u8) none] (.ro)] }
  ks := [.nat, .nat, .int, .int, .int, .nat, .xs, .nat, .xs]
  st := fun x => { tmps := [.one (.sc (.vec 0 x.1 1)), .one (.sc (.vec 1 x.2.1 1)), .one .any, .one .any, .one .any, .one (.sc (.int .u8 x.2.2.1)), .one .any, .one .any, .one .any, .one .any, .one .any, .one .any, .one .any, .one (.sc (.int .i64 x.2.2.2.1)), .one (.sc (.int .i64 x.2.2.2.2.1)), .one .any, .one .any, .one .any, .one .any, .one .any, .one .any, .one .any, .one .any, .one .any, .one .any, .one .any, .one .any, .one .any, .one .any, .one .any, .one .any], mem := [.live { segs := [.xs (.int .u8) x.2.2.2.2.2.1 x.2.2.2.2.2.2.1], own := .ro }, .live { segs := [.xs (.int .u8) x.2.2.2.2.2.2.2.1 x.2.2.2.2.2.2.2.2.1], own := .ro }] }
noncomputable def p_octet_Same_l5_F (N : Nat) (β : Type) (x : (Nat × Nat × Int × Int × Int × Nat × List Int × Nat × List Int × Unit)) (kn : (Nat × Nat × Int × Int × Int × Nat × List Int × Nat × List Int × Unit) → Option β) (ke : ((Int × Unit)) → Option β) : Option β :=
  if (x.2.2.2.2.1 < x.2.2.2.1) then
    if 0 ≤ x.2.2.2.2.1 then (
    if x.2.2.2.2.1 < ((x.1 : Nat) : Int) then (
    if (x.2.2.2.2.1.toNat) < x.2.2.2.2.2.1 then (
    if 0 ≤ x.2.2.2.2.1 then (
    if x.2.2.2.2.1 < ((x.2.1 : Nat) : Int) then (
    if (x.2.2.2.2.1.toNat) < x.2.2.2.2.2.2.2.1 then (
    kn (x.1, x.2.1, (ior IntKind.u8 x.2.2.1 (ixor IntKind.u8 (List.getD x.2.2.2.2.2.2.1 (x.2.2.2.2.1.toNat) 0) (List.getD x.2.2.2.2.2.2.2.2.1 (x.2.2.2.2.1.toNat) 0))), x.2.2.2.1, (IntKind.i64.wrap (x.2.2.2.2.1 + (1:Int))), x.2.2.2.2.2.1, x.2.2.2.2.2.2.1, x.2.2.2.2.2.2.2.1, x.2.2.2.2.2.2.2.2.1, ())) else none) else none) else none) else none) else none) else none
  else
    ke (x.2.2.1, ())
noncomputable def p_octet_Same_l5_go : Go' ((Int × Unit)) := fun y K => K (.exit 0) { tmps := [.one .any, .one .any, .one .any, .one .any, .one .any, .one (.sc (.int .u8 y.1)), .one .any, .one .any, .one .any, .one .any, .one .any, .one .any, .one .any, .one .any, .one .any, .one .any, .one .any, .one .any, .one .any, .one .any, .one .any, .one .any, .one .any, .one .any, .one .any, .one .any, .one .any, .one .any, .one .any, .one .any, .one .any], mem := [] }
noncomputable def p_octet_Same_l5_L (N : Nat) : LT := upd (LT.nil) 5 (loopE p_octet_Same_l5_S N (p_octet_Same_l5_F N) p_octet_Same_l5_go)
theorem p_octet_Same_l5_ok (N : Nat) : OkAll p_octet_Same_E p_octet_Same_H N (p_octet_Same_l5_L N) (subs p_octet_Same_c) :=
  addLoop (c := theLoop 5 p_octet_Same_c) (OkAll.nil) (by kernel_rfl) (fun x => by kernel_rfl) (fun β x kn ke => by kernel_rfl)
abbrev p_octet_Same_ks : List Kd := [.sl (.int .u8), .sl (.int .u8)]
abbrev p_octet_Same_rs : List Kd := [.bool]
noncomputable def p_octet_Same (N : Nat) (x : List Int × List Int × Unit) : Option (Bool) :=
  if ((((List.length x.1) : Nat) : Int) ≠ (((List.length x.2.1) : Nat) : Int)) then
    some false
  else
    iter (p_octet_Same_l5_F N) N ((List.length x.1), (List.length x.2.1), (0:Int), (((List.length x.1) : Nat) : Int), (0:Int), (List.length x.1), x.1, (List.length x.2.1), x.2.1, ()) fun y1 => (
    some (decide (y1.1 = (0:Int))))
theorem p_octet_Same_eq (N : Nat) (x : Ds [.sl (.int .u8), .sl (.int .u8)]) : funL p_octet_Same_E p_octet_Same_H (p_octet_Same_l5_L N) N Go.Proofs.Try.f32 p_octet_Same_c [.sl (.int .u8), .sl (.int .u8)] [.bool] x = p_octet_Same N x := by kernel_rfl
theorem p_octet_Same_Eok : p_octet_Same_E.Ok Go.Proofs.Try.prog := AE.of_ok (all_cons ty5_ok (all_cons ty22_ok all_nil)) all_nil
theorem p_octet_Same_ok {g : Ds [.sl (.int .u8), .sl (.int .u8)] → Option (Rs [.bool])} (hg : ∀ x r, g x = some r → ∃ N, p_octet_Same N x = some r) : SigOk Go.Proofs.Try.prog 32 ⟨[.sl (.int .u8), .sl (.int .u8)], [.bool], g⟩ :=
  fun_of (E := p_octet_Same_E) (H := p_octet_Same_H) (L := fun N => p_octet_Same_l5_L N) (c := p_octet_Same_c) (ks := p_octet_Same_ks) (rs := p_octet_Same_rs) (F := p_octet_Same) (p_octet_Same_Eok) mix Go.Proofs.Try.func32 (by kernel_rfl) (fun N => p_octet_Same_l5_ok N) p_octet_Same_eq hg

/-! livery/liverylaw23.big -/
noncomputable def p_law23_big_E : AE := AE.of [(22, ty22), (37, ty37)] []
noncomputable def p_law23_big_H : Hints := [(3000000, [2])]
noncomputable def p_law23_big_c : Code := (Go.Proofs.Try.f14).body.getD .skip
abbrev p_law23_big_ks : List Kd := [.cat [.int .i64, .int .i64, .int .u32, .int .u32, .int .u64, .int .u64, .sl (.int .u8), .sl (.int .u8), .sl (.int .u8), .sl (.int .u8)]]
abbrev p_law23_big_rs : List Kd := [.bool]
noncomputable def p_law23_big (N : Nat) (x : (Int × Int × Int × Int × Int × Int × List Int × List Int × List Int × List Int × Unit) × Unit) : Option (Bool) :=
  if (((List.length x.1.2.2.2.2.2.2.1 : Nat) : Int) > (9000:Int)) then
    some true
  else
    if (((List.length x.1.2.2.2.2.2.2.2.1 : Nat) : Int) > (9000:Int)) then
      some true
    else
      if (((List.length x.1.2.2.2.2.2.2.2.2.1 : Nat) : Int) > (9000:Int)) then
        some true
      else
        some (decide (((List.length x.1.2.2.2.2.2.2.2.2.2.1 : Nat) : Int) > (9000:Int)))
theorem p_law23_big_eq (N : Nat) (x : Ds [.cat [.int .i64, .int .i64, .int .u32, .int .u32, .int .u64, .int .u64, .sl (.int .u8), .sl (.int .u8), .sl (.int .u8), .sl (.int .u8)]]) : funL p_law23_big_E p_law23_big_H (LT.nil) N Go.Proofs.Try.f14 p_law23_big_c [.cat [.int .i64, .int .i64, .int .u32, .int .u32, .int .u64, .int .u64, .sl (.int .u8), .sl (.int .u8), .sl (.int .u8), .sl (.int .u8)]] [.bool] x = p_law23_big N x := by kernel_rfl
theorem p_law23_big_Eok : p_law23_big_E.Ok Go.Proofs.Try.prog := AE.of_ok (all_cons ty22_ok (all_cons ty37_ok all_nil)) all_nil
theorem p_law23_big_ok {g : Ds [.cat [.int .i64, .int .i64, .int .u32, .int .u32, .int .u64, .int .u64, .sl (.int .u8), .sl (.int .u8), .sl (.int .u8), .sl (.int .u8)]] → Option (Rs [.bool])} (hg : ∀ x r, g x = some r → ∃ N, p_law23_big N x = some r) : SigOk Go.Proofs.Try.prog 14 ⟨[.cat [.int .i64, .int .i64, .int .u32, .int .u32, .int .u64, .int .u64, .sl (.int .u8), .sl (.int .u8), .sl (.int .u8), .sl (.int .u8)]], [.bool], g⟩ :=
  fun_of (E := p_law23_big_E) (H := p_law23_big_H) (L := fun N => LT.nil) (c := p_law23_big_c) (ks := p_law23_big_ks) (rs := p_law23_big_rs) (F := p_law23_big) (p_law23_big_Eok) mix Go.Proofs.Try.func14 (by kernel_rfl) (fun N => OkAll.nil) p_law23_big_eq hg

/-! livery/liveryref19.One -/
noncomputable def p_ref19_One_E : AE := AE.of [(33, ty33), (35, ty35)] []
noncomputable def p_ref19_One_H : Hints := [(3000000, [2])]
noncomputable def p_ref19_One_c : Code := (Go.Proofs.Try.f47).body.getD .skip
abbrev p_ref19_One_ks : List Kd := [.cat [.int .u64, .int .u64]]
abbrev p_ref19_One_rs : List Kd := [.bool]
noncomputable def p_ref19_One (N : Nat) (x : (Int × Int × Unit) × Unit) : Option (Bool) :=
  if (x.1.1 < x.1.2.1) then
    some (decide (x.1.2.1 ≤ (1152921504606846976:Int)))
  else
    some false
theorem p_ref19_One_eq (N : Nat) (x : Ds [.cat [.int .u64, .int .u64]]) : funL p_ref19_One_E p_ref19_One_H (LT.nil) N Go.Proofs.Try.f47 p_ref19_One_c [.cat [.int .u64, .int .u64]] [.bool] x = p_ref19_One N x := by kernel_rfl
theorem p_ref19_One_Eok : p_ref19_One_E.Ok Go.Proofs.Try.prog := AE.of_ok (all_cons ty33_ok (all_cons ty35_ok all_nil)) all_nil
theorem p_ref19_One_ok {g : Ds [.cat [.int .u64, .int .u64]] → Option (Rs [.bool])} (hg : ∀ x r, g x = some r → ∃ N, p_ref19_One N x = some r) : SigOk Go.Proofs.Try.prog 47 ⟨[.cat [.int .u64, .int .u64]], [.bool], g⟩ :=
  fun_of (E := p_ref19_One_E) (H := p_ref19_One_H) (L := fun N => LT.nil) (c := p_ref19_One_c) (ks := p_ref19_One_ks) (rs := p_ref19_One_rs) (F := p_ref19_One) (p_ref19_One_Eok) mix Go.Proofs.Try.func47 (by kernel_rfl) (fun N => OkAll.nil) p_ref19_One_eq hg

/-! livery/liveryref23.spoken -/
noncomputable def p_ref23_spoken_E : AE := AE.of [(3, ty3), (22, ty22), (35, ty35), (37, ty37)] [(47, ⟨[.cat [.int .u64, .int .u64]], [.bool], g_ref19_One⟩)]
noncomputable def p_ref23_spoken_H : Hints := [(3000000, [2])]
noncomputable def p_ref23_spoken_c : Code := (Go.Proofs.Try.f35).body.getD .skip
abbrev p_ref23_spoken_ks : List Kd := [.cat [.int .i64, .int .i64, .int .u32, .int .u32, .int .u64, .int .u64, .sl (.int .u8), .sl (.int .u8), .sl (.int .u8), .sl (.int .u8)]]
abbrev p_ref23_spoken_rs : List Kd := [.bool]
noncomputable def p_ref23_spoken (N : Nat) (x : (Int × Int × Int × Int × Int × Int × List Int × List Int × List Int × List Int × Unit) × Unit) : Option (Bool) :=
  if (x.1.1 ≥ (0:Int)) then
    if (x.1.1 < (16:Int)) then
      if (x.1.2.1 ≥ (0:Int)) then
        if (x.1.2.1 < (16:Int)) then
          if (x.1.1 ≠ x.1.2.1) then
            (g_ref19_One ((x.1.2.2.2.2.1, x.1.2.2.2.2.2.1, ()), ())).bind fun r1 => (
            if (r1 = true) then
              if (((List.length x.1.2.2.2.2.2.2.1 : Nat) : Int) ≥ (1:Int)) then
                some (decide (((List.length x.1.2.2.2.2.2.2.1 : Nat) : Int) ≤ (68:Int)))
              else
                some false
            else
              some false)
          else
            some false
        else
          some false
      else
        some false
    else
      some false
  else
    some false
theorem p_ref23_spoken_eq (N : Nat) (x : Ds [.cat [.int .i64, .int .i64, .int .u32, .int .u32, .int .u64, .int .u64, .sl (.int .u8), .sl (.int .u8), .sl (.int .u8), .sl (.int .u8)]]) : funL p_ref23_spoken_E p_ref23_spoken_H (LT.nil) N Go.Proofs.Try.f35 p_ref23_spoken_c [.cat [.int .i64, .int .i64, .int .u32, .int .u32, .int .u64, .int .u64, .sl (.int .u8), .sl (.int .u8), .sl (.int .u8), .sl (.int .u8)]] [.bool] x = p_ref23_spoken N x := by kernel_rfl
theorem p_ref23_spoken_Eok (he_ref19_One : SigOk Go.Proofs.Try.prog 47 ⟨[.cat [.int .u64, .int .u64]], [.bool], g_ref19_One⟩) : p_ref23_spoken_E.Ok Go.Proofs.Try.prog := AE.of_ok (all_cons ty3_ok (all_cons ty22_ok (all_cons ty35_ok (all_cons ty37_ok all_nil)))) (all_cons ⟨he_ref19_One, enters_ref19_One⟩ all_nil)
theorem p_ref23_spoken_ok (he_ref19_One : SigOk Go.Proofs.Try.prog 47 ⟨[.cat [.int .u64, .int .u64]], [.bool], g_ref19_One⟩) {g : Ds [.cat [.int .i64, .int .i64, .int .u32, .int .u32, .int .u64, .int .u64, .sl (.int .u8), .sl (.int .u8), .sl (.int .u8), .sl (.int .u8)]] → Option (Rs [.bool])} (hg : ∀ x r, g x = some r → ∃ N, p_ref23_spoken N x = some r) : SigOk Go.Proofs.Try.prog 35 ⟨[.cat [.int .i64, .int .i64, .int .u32, .int .u32, .int .u64, .int .u64, .sl (.int .u8), .sl (.int .u8), .sl (.int .u8), .sl (.int .u8)]], [.bool], g⟩ :=
  fun_of (E := p_ref23_spoken_E) (H := p_ref23_spoken_H) (L := fun N => LT.nil) (c := p_ref23_spoken_c) (ks := p_ref23_spoken_ks) (rs := p_ref23_spoken_rs) (F := p_ref23_spoken) (p_ref23_spoken_Eok he_ref19_One) mix Go.Proofs.Try.func35 (by kernel_rfl) (fun N => OkAll.nil) p_ref23_spoken_eq hg

/-! livery/liveryref01.Big -/
noncomputable def p_ref01_Big_E : AE := AE.of [(5, ty5), (22, ty22), (33, ty33)] []
noncomputable def p_ref01_Big_H : Hints := [(3, [0, 5, 6]), (2000000, [5]), (2000001, [0, 5, 6]), (3000000, [4])]
noncomputable def p_ref01_Big_c : Code := (Go.Proofs.Try.f36).body.getD .skip
noncomputable def p_ref01_Big_l3_S : Shape where
  h := { tmps := [.sc (.int .u64), .any, .any, .any, .any, .sc (.vec 0 none 1), .sc (.int .i64), .any, .any, .any, .any, .any, .any, .any, .any, .any, .any, .any, .any, .any, .any, .any, .any, .any], mem := [.live [.xs (.int .u8) none] (.own)] }
  ks := [.int, .nat, .int, .nat, .xs]
  st := fun x => { tmps := [.one (.sc (.int .u64 x.1)), .one .any, .one .any, .one .any, .one .any, .one (.sc (.vec 0 x.2.1 1)), .one (.sc (.int .i64 x.2.2.1)), .one .any, .one .any, .one .any, .one .any, .one .any, .one .any, .one .any, .one .any, .one .any, .one .any, .one .any, .one .any, .one .any, .one .any, .one .any, .one .any, .one .any], mem := [.live { segs := [.xs (.int .u8) x.2.2.2.1 x.2.2.2.2.1], own := .own }] }
noncomputable def p_ref01_Big_l3_F (N : Nat) (β : Type) (x : (Int × Nat × Int × Nat × List Int × Unit)) (kn : (Int × Nat × Int × Nat × List Int × Unit) → Option β) (ke : ((Nat × Nat × List Int × Unit)) → Option β) : Option β :=
  if (x.2.2.1 ≥ (0:Int)) then
    if 0 ≤ x.2.2.1 then (
    if x.2.2.1 < ((x.2.1 : Nat) : Int) then (
    if (x.2.2.1.toNat) < x.2.2.2.1 then (
    kn ((IntKind.u64.wrap (Int.tdiv x.1 (256:Int))), x.2.1, (IntKind.i64.wrap (x.2.2.1 - (1:Int))), x.2.2.2.1, (List.set x.2.2.2.2.1 (x.2.2.1.toNat) (IntKind.u8.wrap (Int.tmod x.1 (256:Int)))), ())) else none) else none) else none
  else
    ke (x.2.1, x.2.2.2.1, x.2.2.2.2.1, ())
noncomputable def p_ref01_Big_l3_go : Go' ((Nat × Nat × List Int × Unit)) := fun y K => K (.exit 0) { tmps := [.one .any, .one .any, .one .any, .one .any, .one .any, .one (.sc (.vec 0 y.1 1)), .one .any, .one .any, .one .any, .one .any, .one .any, .one .any, .one .any, .one .any, .one .any, .one .any, .one .any, .one .any, .one .any, .one .any, .one .any, .one .any, .one .any, .one .any], mem := [.live { segs := [.xs (.int .u8) y.2.1 y.2.2.1], own := .own }] }
noncomputable def p_ref01_Big_l3_L (N : Nat) : LT := upd (LT.nil) 3 (loopE p_ref01_Big_l3_S N (p_ref01_Big_l3_F N) p_ref01_Big_l3_go)
theorem p_ref01_Big_l3_ok (N : Nat) : OkAll p_ref01_Big_E p_ref01_Big_H N (p_ref01_Big_l3_L N) (subs p_ref01_Big_c) :=
  addLoop (c := theLoop 3 p_ref01_Big_c) (OkAll.nil) (by kernel_rfl) (fun x => by kernel_rfl) (fun β x kn ke => by kernel_rfl)
abbrev p_ref01_Big_ks : List Kd := [.int .u64, .int .i64]
abbrev p_ref01_Big_rs : List Kd := [.sl (.int .u8)]
noncomputable def p_ref01_Big (N : Nat) (x : Int × Int × Unit) : Option (List Int) :=
  if 0 ≤ x.2.1 then (
  if x.2.1 = x.2.1 then (
  if x.2.1 * 1 ≤ 281474976710656 then (
  iter (p_ref01_Big_l3_F N) N (x.1, (x.2.1.toNat), (IntKind.i64.wrap (x.2.1 - (1:Int))), (x.2.1.toNat), (List.replicate (x.2.1.toNat) 0), ()) fun y1 => (
  some y1.2.2.1)) else none) else none) else none
theorem p_ref01_Big_eq (N : Nat) (x : Ds [.int .u64, .int .i64]) : funL p_ref01_Big_E p_ref01_Big_H (p_ref01_Big_l3_L N) N Go.Proofs.Try.f36 p_ref01_Big_c [.int .u64, .int .i64] [.sl (.int .u8)] x = p_ref01_Big N x := by kernel_rfl
theorem p_ref01_Big_Eok : p_ref01_Big_E.Ok Go.Proofs.Try.prog := AE.of_ok (all_cons ty5_ok (all_cons ty22_ok (all_cons ty33_ok all_nil))) all_nil
theorem p_ref01_Big_ok {g : Ds [.int .u64, .int .i64] → Option (Rs [.sl (.int .u8)])} (hg : ∀ x r, g x = some r → ∃ N, p_ref01_Big N x = some r) : SigOk Go.Proofs.Try.prog 36 ⟨[.int .u64, .int .i64], [.sl (.int .u8)], g⟩ :=
  fun_of (E := p_ref01_Big_E) (H := p_ref01_Big_H) (L := fun N => p_ref01_Big_l3_L N) (c := p_ref01_Big_c) (ks := p_ref01_Big_ks) (rs := p_ref01_Big_rs) (F := p_ref01_Big) (p_ref01_Big_Eok) mix Go.Proofs.Try.func36 (by kernel_rfl) (fun N => p_ref01_Big_l3_ok N) p_ref01_Big_eq hg

/-! livery/liveryref23.text -/
noncomputable def p_ref23_text_E : AE := AE.of [(3, ty3), (22, ty22), (23, ty23), (33, ty33)] [(36, ⟨[.int .u64, .int .i64], [.sl (.int .u8)], g_ref01_Big⟩), (25, ⟨[.sls (.int .u8)], [.sl (.int .u8)], g_ref01_Join⟩)]
noncomputable def p_ref23_text_H : Hints := [(3000000, [2])]
noncomputable def p_ref23_text_c : Code := (Go.Proofs.Try.f37).body.getD .skip
abbrev p_ref23_text_ks : List Kd := [.sl (.int .u8)]
abbrev p_ref23_text_rs : List Kd := [.sl (.int .u8)]
noncomputable def p_ref23_text (N : Nat) (x : List Int × Unit) : Option (List Int) :=
  (g_ref01_Big ((IntKind.u64.wrap (((List.length x.1) : Nat) : Int)), (2:Int), ())).bind fun r1 => (
  (g_ref01_Join ([r1, x.1], ())).bind fun r2 => (
  some r2))
theorem p_ref23_text_eq (N : Nat) (x : Ds [.sl (.int .u8)]) : funL p_ref23_text_E p_ref23_text_H (LT.nil) N Go.Proofs.Try.f37 p_ref23_text_c [.sl (.int .u8)] [.sl (.int .u8)] x = p_ref23_text N x := by kernel_rfl
theorem p_ref23_text_Eok (he_ref01_Big : SigOk Go.Proofs.Try.prog 36 ⟨[.int .u64, .int .i64], [.sl (.int .u8)], g_ref01_Big⟩) (he_ref01_Join : SigOk Go.Proofs.Try.prog 25 ⟨[.sls (.int .u8)], [.sl (.int .u8)], g_ref01_Join⟩) : p_ref23_text_E.Ok Go.Proofs.Try.prog := AE.of_ok (all_cons ty3_ok (all_cons ty22_ok (all_cons ty23_ok (all_cons ty33_ok all_nil)))) (all_cons ⟨he_ref01_Big, enters_ref01_Big⟩ (all_cons ⟨he_ref01_Join, enters_ref01_Join⟩ all_nil))
theorem p_ref23_text_ok (he_ref01_Big : SigOk Go.Proofs.Try.prog 36 ⟨[.int .u64, .int .i64], [.sl (.int .u8)], g_ref01_Big⟩) (he_ref01_Join : SigOk Go.Proofs.Try.prog 25 ⟨[.sls (.int .u8)], [.sl (.int .u8)], g_ref01_Join⟩) {g : Ds [.sl (.int .u8)] → Option (Rs [.sl (.int .u8)])} (hg : ∀ x r, g x = some r → ∃ N, p_ref23_text N x = some r) : SigOk Go.Proofs.Try.prog 37 ⟨[.sl (.int .u8)], [.sl (.int .u8)], g⟩ :=
  fun_of (E := p_ref23_text_E) (H := p_ref23_text_H) (L := fun N => LT.nil) (c := p_ref23_text_c) (ks := p_ref23_text_ks) (rs := p_ref23_text_rs) (F := p_ref23_text) (p_ref23_text_Eok he_ref01_Big he_ref01_Join) mix Go.Proofs.Try.func37 (by kernel_rfl) (fun N => OkAll.nil) p_ref23_text_eq hg

/-! livery/liveryref23.Said -/
noncomputable def p_ref23_Said_E : AE := AE.of [(3, ty3), (5, ty5), (22, ty22), (23, ty23), (32, ty32), (33, ty33), (35, ty35), (37, ty37)] [(35, ⟨[.cat [.int .i64, .int .i64, .int .u32, .int .u32, .int .u64, .int .u64, .sl (.int .u8), .sl (.int .u8), .sl (.int .u8), .sl (.int .u8)]], [.bool], g_ref23_spoken⟩), (36, ⟨[.int .u64, .int .i64], [.sl (.int .u8)], g_ref01_Big⟩), (37, ⟨[.sl (.int .u8)], [.sl (.int .u8)], g_ref23_text⟩), (25, ⟨[.sls (.int .u8)], [.sl (.int .u8)], g_ref01_Join⟩)]
noncomputable def p_ref23_Said_H : Hints := [(3000000, [2])]
noncomputable def p_ref23_Said_c : Code := (Go.Proofs.Try.f22).body.getD .skip
abbrev p_ref23_Said_ks : List Kd := [.cat [.int .i64, .int .i64, .int .u32, .int .u32, .int .u64, .int .u64, .sl (.int .u8), .sl (.int .u8), .sl (.int .u8), .sl (.int .u8)]]
abbrev p_ref23_Said_rs : List Kd := [.sl (.int .u8)]
noncomputable def p_ref23_Said (N : Nat) (x : (Int × Int × Int × Int × Int × Int × List Int × List Int × List Int × List Int × Unit) × Unit) : Option (List Int) :=
  (g_ref23_spoken ((x.1.1, x.1.2.1, x.1.2.2.1, x.1.2.2.2.1, x.1.2.2.2.2.1, x.1.2.2.2.2.2.1, x.1.2.2.2.2.2.2.1, x.1.2.2.2.2.2.2.2.1, x.1.2.2.2.2.2.2.2.2.1, x.1.2.2.2.2.2.2.2.2.2.1, ()), ())).bind fun r1 => (
  if (¬ (r1 = true)) then
    some []
  else
    (g_ref01_Big ((IntKind.u64.wrap x.1.2.2.1), (4:Int), ())).bind fun r2 => (
    (g_ref01_Big ((IntKind.u64.wrap x.1.2.2.2.1), (4:Int), ())).bind fun r3 => (
    (g_ref01_Big (x.1.2.2.2.2.1, (8:Int), ())).bind fun r4 => (
    (g_ref01_Big (x.1.2.2.2.2.2.1, (8:Int), ())).bind fun r5 => (
    (g_ref23_text (x.1.2.2.2.2.2.2.1, ())).bind fun r6 => (
    (g_ref01_Join ([(List.set (List.set (List.replicate 2 0) 0 (IntKind.u8.wrap x.1.1)) 1 (IntKind.u8.wrap x.1.2.1)), r2, r3, r4, r5, r6], ())).bind fun r7 => (
    some r7)))))))
theorem p_ref23_Said_eq (N : Nat) (x : Ds [.cat [.int .i64, .int .i64, .int .u32, .int .u32, .int .u64, .int .u64, .sl (.int .u8), .sl (.int .u8), .sl (.int .u8), .sl (.int .u8)]]) : funL p_ref23_Said_E p_ref23_Said_H (LT.nil) N Go.Proofs.Try.f22 p_ref23_Said_c [.cat [.int .i64, .int .i64, .int .u32, .int .u32, .int .u64, .int .u64, .sl (.int .u8), .sl (.int .u8), .sl (.int .u8), .sl (.int .u8)]] [.sl (.int .u8)] x = p_ref23_Said N x := by kernel_rfl
theorem p_ref23_Said_Eok (he_ref23_spoken : SigOk Go.Proofs.Try.prog 35 ⟨[.cat [.int .i64, .int .i64, .int .u32, .int .u32, .int .u64, .int .u64, .sl (.int .u8), .sl (.int .u8), .sl (.int .u8), .sl (.int .u8)]], [.bool], g_ref23_spoken⟩) (he_ref01_Big : SigOk Go.Proofs.Try.prog 36 ⟨[.int .u64, .int .i64], [.sl (.int .u8)], g_ref01_Big⟩) (he_ref23_text : SigOk Go.Proofs.Try.prog 37 ⟨[.sl (.int .u8)], [.sl (.int .u8)], g_ref23_text⟩) (he_ref01_Join : SigOk Go.Proofs.Try.prog 25 ⟨[.sls (.int .u8)], [.sl (.int .u8)], g_ref01_Join⟩) : p_ref23_Said_E.Ok Go.Proofs.Try.prog := AE.of_ok (all_cons ty3_ok (all_cons ty5_ok (all_cons ty22_ok (all_cons ty23_ok (all_cons ty32_ok (all_cons ty33_ok (all_cons ty35_ok (all_cons ty37_ok all_nil)))))))) (all_cons ⟨he_ref23_spoken, enters_ref23_spoken⟩ (all_cons ⟨he_ref01_Big, enters_ref01_Big⟩ (all_cons ⟨he_ref23_text, enters_ref23_text⟩ (all_cons ⟨he_ref01_Join, enters_ref01_Join⟩ all_nil))))
theorem p_ref23_Said_ok (he_ref23_spoken : SigOk Go.Proofs.Try.prog 35 ⟨[.cat [.int .i64, .int .i64, .int .u32, .int .u32, .int .u64, .int .u64, .sl (.int .u8), .sl (.int .u8), .sl (.int .u8), .sl (.int .u8)]], [.bool], g_ref23_spoken⟩) (he_ref01_Big : SigOk Go.Proofs.Try.prog 36 ⟨[.int .u64, .int .i64], [.sl (.int .u8)], g_ref01_Big⟩) (he_ref23_text : SigOk Go.Proofs.Try.prog 37 ⟨[.sl (.int .u8)], [.sl (.int .u8)], g_ref23_text⟩) (he_ref01_Join : SigOk Go.Proofs.Try.prog 25 ⟨[.sls (.int .u8)], [.sl (.int .u8)], g_ref01_Join⟩) {g : Ds [.cat [.int .i64, .int .i64, .int .u32, .int .u32, .int .u64, .int .u64, .sl (.int .u8), .sl (.int .u8), .sl (.int .u8), .sl (.int .u8)]] → Option (Rs [.sl (.int .u8)])} (hg : ∀ x r, g x = some r → ∃ N, p_ref23_Said N x = some r) : SigOk Go.Proofs.Try.prog 22 ⟨[.cat [.int .i64, .int .i64, .int .u32, .int .u32, .int .u64, .int .u64, .sl (.int .u8), .sl (.int .u8), .sl (.int .u8), .sl (.int .u8)]], [.sl (.int .u8)], g⟩ :=
  fun_of (E := p_ref23_Said_E) (H := p_ref23_Said_H) (L := fun N => LT.nil) (c := p_ref23_Said_c) (ks := p_ref23_Said_ks) (rs := p_ref23_Said_rs) (F := p_ref23_Said) (p_ref23_Said_Eok he_ref23_spoken he_ref01_Big he_ref23_text he_ref01_Join) mix Go.Proofs.Try.func22 (by kernel_rfl) (fun N => OkAll.nil) p_ref23_Said_eq hg

/-! livery/liveryref23.worded -/
noncomputable def p_ref23_worded_E : AE := AE.of [(22, ty22), (37, ty37)] [(35, ⟨[.cat [.int .i64, .int .i64, .int .u32, .int .u32, .int .u64, .int .u64, .sl (.int .u8), .sl (.int .u8), .sl (.int .u8), .sl (.int .u8)]], [.bool], g_ref23_spoken⟩)]
noncomputable def p_ref23_worded_H : Hints := [(3000000, [2])]
noncomputable def p_ref23_worded_c : Code := (Go.Proofs.Try.f29).body.getD .skip
abbrev p_ref23_worded_ks : List Kd := [.cat [.int .i64, .int .i64, .int .u32, .int .u32, .int .u64, .int .u64, .sl (.int .u8), .sl (.int .u8), .sl (.int .u8), .sl (.int .u8)]]
abbrev p_ref23_worded_rs : List Kd := [.bool]
noncomputable def p_ref23_worded (N : Nat) (x : (Int × Int × Int × Int × Int × Int × List Int × List Int × List Int × List Int × Unit) × Unit) : Option (Bool) :=
  (g_ref23_spoken ((x.1.1, x.1.2.1, x.1.2.2.1, x.1.2.2.2.1, x.1.2.2.2.2.1, x.1.2.2.2.2.2.1, x.1.2.2.2.2.2.2.1, x.1.2.2.2.2.2.2.2.1, x.1.2.2.2.2.2.2.2.2.1, x.1.2.2.2.2.2.2.2.2.2.1, ()), ())).bind fun r1 => (
  if (r1 = true) then
    if (((List.length x.1.2.2.2.2.2.2.2.1 : Nat) : Int) = (1088:Int)) then
      if (((List.length x.1.2.2.2.2.2.2.2.2.1 : Nat) : Int) ≥ (33:Int)) then
        some (decide (((List.length x.1.2.2.2.2.2.2.2.2.1 : Nat) : Int) ≤ (288:Int)))
      else
        some false
    else
      some false
  else
    some false)
theorem p_ref23_worded_eq (N : Nat) (x : Ds [.cat [.int .i64, .int .i64, .int .u32, .int .u32, .int .u64, .int .u64, .sl (.int .u8), .sl (.int .u8), .sl (.int .u8), .sl (.int .u8)]]) : funL p_ref23_worded_E p_ref23_worded_H (LT.nil) N Go.Proofs.Try.f29 p_ref23_worded_c [.cat [.int .i64, .int .i64, .int .u32, .int .u32, .int .u64, .int .u64, .sl (.int .u8), .sl (.int .u8), .sl (.int .u8), .sl (.int .u8)]] [.bool] x = p_ref23_worded N x := by kernel_rfl
theorem p_ref23_worded_Eok (he_ref23_spoken : SigOk Go.Proofs.Try.prog 35 ⟨[.cat [.int .i64, .int .i64, .int .u32, .int .u32, .int .u64, .int .u64, .sl (.int .u8), .sl (.int .u8), .sl (.int .u8), .sl (.int .u8)]], [.bool], g_ref23_spoken⟩) : p_ref23_worded_E.Ok Go.Proofs.Try.prog := AE.of_ok (all_cons ty22_ok (all_cons ty37_ok all_nil)) (all_cons ⟨he_ref23_spoken, enters_ref23_spoken⟩ all_nil)
theorem p_ref23_worded_ok (he_ref23_spoken : SigOk Go.Proofs.Try.prog 35 ⟨[.cat [.int .i64, .int .i64, .int .u32, .int .u32, .int .u64, .int .u64, .sl (.int .u8), .sl (.int .u8), .sl (.int .u8), .sl (.int .u8)]], [.bool], g_ref23_spoken⟩) {g : Ds [.cat [.int .i64, .int .i64, .int .u32, .int .u32, .int .u64, .int .u64, .sl (.int .u8), .sl (.int .u8), .sl (.int .u8), .sl (.int .u8)]] → Option (Rs [.bool])} (hg : ∀ x r, g x = some r → ∃ N, p_ref23_worded N x = some r) : SigOk Go.Proofs.Try.prog 29 ⟨[.cat [.int .i64, .int .i64, .int .u32, .int .u32, .int .u64, .int .u64, .sl (.int .u8), .sl (.int .u8), .sl (.int .u8), .sl (.int .u8)]], [.bool], g⟩ :=
  fun_of (E := p_ref23_worded_E) (H := p_ref23_worded_H) (L := fun N => LT.nil) (c := p_ref23_worded_c) (ks := p_ref23_worded_ks) (rs := p_ref23_worded_rs) (F := p_ref23_worded) (p_ref23_worded_Eok he_ref23_spoken) mix Go.Proofs.Try.func29 (by kernel_rfl) (fun N => OkAll.nil) p_ref23_worded_eq hg

/-! livery/capsule.worded -/
noncomputable def p_capsule_worded_E : AE := AE.of [(22, ty22), (37, ty37)] [(33, ⟨[.cat [.int .i64, .int .i64, .int .u32, .int .u32, .int .u64, .int .u64, .sl (.int .u8), .sl (.int .u8), .sl (.int .u8), .sl (.int .u8)]], [.bool], g_capsule_spoken⟩)]
noncomputable def p_capsule_worded_H : Hints := [(3000000, [2])]
noncomputable def p_capsule_worded_c : Code := (Go.Proofs.Try.f30).body.getD .skip
abbrev p_capsule_worded_ks : List Kd := [.cat [.int .i64, .int .i64, .int .u32, .int .u32, .int .u64, .int .u64, .sl (.int .u8), .sl (.int .u8), .sl (.int .u8), .sl (.int .u8)]]
abbrev p_capsule_worded_rs : List Kd := [.bool]
noncomputable def p_capsule_worded (N : Nat) (x : (Int × Int × Int × Int × Int × Int × List Int × List Int × List Int × List Int × Unit) × Unit) : Option (Bool) :=
  (g_capsule_spoken ((x.1.1, x.1.2.1, x.1.2.2.1, x.1.2.2.2.1, x.1.2.2.2.2.1, x.1.2.2.2.2.2.1, x.1.2.2.2.2.2.2.1, x.1.2.2.2.2.2.2.2.1, x.1.2.2.2.2.2.2.2.2.1, x.1.2.2.2.2.2.2.2.2.2.1, ()), ())).bind fun r1 => (
  if (r1 = true) then
    if (((List.length x.1.2.2.2.2.2.2.2.1 : Nat) : Int) = (1088:Int)) then
      if ((IntKind.i64.wrap (((List.length x.1.2.2.2.2.2.2.2.2.1 : Nat) : Int) - (32:Int))) ≥ (1:Int)) then
        some (decide ((IntKind.i64.wrap (((List.length x.1.2.2.2.2.2.2.2.2.1 : Nat) : Int) - (32:Int))) ≤ (256:Int)))
      else
        some false
    else
      some false
  else
    some false)
theorem p_capsule_worded_eq (N : Nat) (x : Ds [.cat [.int .i64, .int .i64, .int .u32, .int .u32, .int .u64, .int .u64, .sl (.int .u8), .sl (.int .u8), .sl (.int .u8), .sl (.int .u8)]]) : funL p_capsule_worded_E p_capsule_worded_H (LT.nil) N Go.Proofs.Try.f30 p_capsule_worded_c [.cat [.int .i64, .int .i64, .int .u32, .int .u32, .int .u64, .int .u64, .sl (.int .u8), .sl (.int .u8), .sl (.int .u8), .sl (.int .u8)]] [.bool] x = p_capsule_worded N x := by kernel_rfl
theorem p_capsule_worded_Eok (he_capsule_spoken : SigOk Go.Proofs.Try.prog 33 ⟨[.cat [.int .i64, .int .i64, .int .u32, .int .u32, .int .u64, .int .u64, .sl (.int .u8), .sl (.int .u8), .sl (.int .u8), .sl (.int .u8)]], [.bool], g_capsule_spoken⟩) : p_capsule_worded_E.Ok Go.Proofs.Try.prog := AE.of_ok (all_cons ty22_ok (all_cons ty37_ok all_nil)) (all_cons ⟨he_capsule_spoken, enters_capsule_spoken⟩ all_nil)
theorem p_capsule_worded_ok (he_capsule_spoken : SigOk Go.Proofs.Try.prog 33 ⟨[.cat [.int .i64, .int .i64, .int .u32, .int .u32, .int .u64, .int .u64, .sl (.int .u8), .sl (.int .u8), .sl (.int .u8), .sl (.int .u8)]], [.bool], g_capsule_spoken⟩) {g : Ds [.cat [.int .i64, .int .i64, .int .u32, .int .u32, .int .u64, .int .u64, .sl (.int .u8), .sl (.int .u8), .sl (.int .u8), .sl (.int .u8)]] → Option (Rs [.bool])} (hg : ∀ x r, g x = some r → ∃ N, p_capsule_worded N x = some r) : SigOk Go.Proofs.Try.prog 30 ⟨[.cat [.int .i64, .int .i64, .int .u32, .int .u32, .int .u64, .int .u64, .sl (.int .u8), .sl (.int .u8), .sl (.int .u8), .sl (.int .u8)]], [.bool], g⟩ :=
  fun_of (E := p_capsule_worded_E) (H := p_capsule_worded_H) (L := fun N => LT.nil) (c := p_capsule_worded_c) (ks := p_capsule_worded_ks) (rs := p_capsule_worded_rs) (F := p_capsule_worded) (p_capsule_worded_Eok he_capsule_spoken) mix Go.Proofs.Try.func30 (by kernel_rfl) (fun N => OkAll.nil) p_capsule_worded_eq hg

/-! livery/liveryref23.May -/
noncomputable def p_ref23_May_E : AE := AE.of [(22, ty22), (37, ty37)] [(29, ⟨[.cat [.int .i64, .int .i64, .int .u32, .int .u32, .int .u64, .int .u64, .sl (.int .u8), .sl (.int .u8), .sl (.int .u8), .sl (.int .u8)]], [.bool], g_ref23_worded⟩)]
noncomputable def p_ref23_May_H : Hints := [(3000000, [2])]
noncomputable def p_ref23_May_c : Code := (Go.Proofs.Try.f15).body.getD .skip
abbrev p_ref23_May_ks : List Kd := [.cat [.int .i64, .int .i64, .int .u32, .int .u32, .int .u64, .int .u64, .sl (.int .u8), .sl (.int .u8), .sl (.int .u8), .sl (.int .u8)]]
abbrev p_ref23_May_rs : List Kd := [.bool]
noncomputable def p_ref23_May (N : Nat) (x : (Int × Int × Int × Int × Int × Int × List Int × List Int × List Int × List Int × Unit) × Unit) : Option (Bool) :=
  (g_ref23_worded ((x.1.1, x.1.2.1, x.1.2.2.1, x.1.2.2.2.1, x.1.2.2.2.2.1, x.1.2.2.2.2.2.1, x.1.2.2.2.2.2.2.1, x.1.2.2.2.2.2.2.2.1, x.1.2.2.2.2.2.2.2.2.1, x.1.2.2.2.2.2.2.2.2.2.1, ()), ())).bind fun r1 => (
  if (r1 = true) then
    some (decide (((List.length x.1.2.2.2.2.2.2.2.2.2.1 : Nat) : Int) = (3309:Int)))
  else
    some false)
theorem p_ref23_May_eq (N : Nat) (x : Ds [.cat [.int .i64, .int .i64, .int .u32, .int .u32, .int .u64, .int .u64, .sl (.int .u8), .sl (.int .u8), .sl (.int .u8), .sl (.int .u8)]]) : funL p_ref23_May_E p_ref23_May_H (LT.nil) N Go.Proofs.Try.f15 p_ref23_May_c [.cat [.int .i64, .int .i64, .int .u32, .int .u32, .int .u64, .int .u64, .sl (.int .u8), .sl (.int .u8), .sl (.int .u8), .sl (.int .u8)]] [.bool] x = p_ref23_May N x := by kernel_rfl
theorem p_ref23_May_Eok (he_ref23_worded : SigOk Go.Proofs.Try.prog 29 ⟨[.cat [.int .i64, .int .i64, .int .u32, .int .u32, .int .u64, .int .u64, .sl (.int .u8), .sl (.int .u8), .sl (.int .u8), .sl (.int .u8)]], [.bool], g_ref23_worded⟩) : p_ref23_May_E.Ok Go.Proofs.Try.prog := AE.of_ok (all_cons ty22_ok (all_cons ty37_ok all_nil)) (all_cons ⟨he_ref23_worded, enters_ref23_worded⟩ all_nil)
theorem p_ref23_May_ok (he_ref23_worded : SigOk Go.Proofs.Try.prog 29 ⟨[.cat [.int .i64, .int .i64, .int .u32, .int .u32, .int .u64, .int .u64, .sl (.int .u8), .sl (.int .u8), .sl (.int .u8), .sl (.int .u8)]], [.bool], g_ref23_worded⟩) {g : Ds [.cat [.int .i64, .int .i64, .int .u32, .int .u32, .int .u64, .int .u64, .sl (.int .u8), .sl (.int .u8), .sl (.int .u8), .sl (.int .u8)]] → Option (Rs [.bool])} (hg : ∀ x r, g x = some r → ∃ N, p_ref23_May N x = some r) : SigOk Go.Proofs.Try.prog 15 ⟨[.cat [.int .i64, .int .i64, .int .u32, .int .u32, .int .u64, .int .u64, .sl (.int .u8), .sl (.int .u8), .sl (.int .u8), .sl (.int .u8)]], [.bool], g⟩ :=
  fun_of (E := p_ref23_May_E) (H := p_ref23_May_H) (L := fun N => LT.nil) (c := p_ref23_May_c) (ks := p_ref23_May_ks) (rs := p_ref23_May_rs) (F := p_ref23_May) (p_ref23_May_Eok he_ref23_worded) mix Go.Proofs.Try.func15 (by kernel_rfl) (fun N => OkAll.nil) p_ref23_May_eq hg

/-! livery/capsule.Check -/
noncomputable def p_capsule_Check_E : AE := AE.of [(22, ty22), (37, ty37)] [(30, ⟨[.cat [.int .i64, .int .i64, .int .u32, .int .u32, .int .u64, .int .u64, .sl (.int .u8), .sl (.int .u8), .sl (.int .u8), .sl (.int .u8)]], [.bool], g_capsule_worded⟩)]
noncomputable def p_capsule_Check_H : Hints := [(3000000, [2])]
noncomputable def p_capsule_Check_c : Code := (Go.Proofs.Try.f20).body.getD .skip
abbrev p_capsule_Check_ks : List Kd := [.cat [.int .i64, .int .i64, .int .u32, .int .u32, .int .u64, .int .u64, .sl (.int .u8), .sl (.int .u8), .sl (.int .u8), .sl (.int .u8)]]
abbrev p_capsule_Check_rs : List Kd := [.int .i64]
noncomputable def p_capsule_Check (N : Nat) (x : (Int × Int × Int × Int × Int × Int × List Int × List Int × List Int × List Int × Unit) × Unit) : Option (Int) :=
  (g_capsule_worded ((x.1.1, x.1.2.1, x.1.2.2.1, x.1.2.2.2.1, x.1.2.2.2.2.1, x.1.2.2.2.2.2.1, x.1.2.2.2.2.2.2.1, x.1.2.2.2.2.2.2.2.1, x.1.2.2.2.2.2.2.2.2.1, x.1.2.2.2.2.2.2.2.2.2.1, ()), ())).bind fun r1 => (
  if (¬ (r1 = true)) then
    some (230:Int)
  else
    if (((List.length x.1.2.2.2.2.2.2.2.2.2.1 : Nat) : Int) ≠ (3309:Int)) then
      some (230:Int)
    else
      some (0:Int))
theorem p_capsule_Check_eq (N : Nat) (x : Ds [.cat [.int .i64, .int .i64, .int .u32, .int .u32, .int .u64, .int .u64, .sl (.int .u8), .sl (.int .u8), .sl (.int .u8), .sl (.int .u8)]]) : funL p_capsule_Check_E p_capsule_Check_H (LT.nil) N Go.Proofs.Try.f20 p_capsule_Check_c [.cat [.int .i64, .int .i64, .int .u32, .int .u32, .int .u64, .int .u64, .sl (.int .u8), .sl (.int .u8), .sl (.int .u8), .sl (.int .u8)]] [.int .i64] x = p_capsule_Check N x := by kernel_rfl
theorem p_capsule_Check_Eok (he_capsule_worded : SigOk Go.Proofs.Try.prog 30 ⟨[.cat [.int .i64, .int .i64, .int .u32, .int .u32, .int .u64, .int .u64, .sl (.int .u8), .sl (.int .u8), .sl (.int .u8), .sl (.int .u8)]], [.bool], g_capsule_worded⟩) : p_capsule_Check_E.Ok Go.Proofs.Try.prog := AE.of_ok (all_cons ty22_ok (all_cons ty37_ok all_nil)) (all_cons ⟨he_capsule_worded, enters_capsule_worded⟩ all_nil)
theorem p_capsule_Check_ok (he_capsule_worded : SigOk Go.Proofs.Try.prog 30 ⟨[.cat [.int .i64, .int .i64, .int .u32, .int .u32, .int .u64, .int .u64, .sl (.int .u8), .sl (.int .u8), .sl (.int .u8), .sl (.int .u8)]], [.bool], g_capsule_worded⟩) {g : Ds [.cat [.int .i64, .int .i64, .int .u32, .int .u32, .int .u64, .int .u64, .sl (.int .u8), .sl (.int .u8), .sl (.int .u8), .sl (.int .u8)]] → Option (Rs [.int .i64])} (hg : ∀ x r, g x = some r → ∃ N, p_capsule_Check N x = some r) : SigOk Go.Proofs.Try.prog 20 ⟨[.cat [.int .i64, .int .i64, .int .u32, .int .u32, .int .u64, .int .u64, .sl (.int .u8), .sl (.int .u8), .sl (.int .u8), .sl (.int .u8)]], [.int .i64], g⟩ :=
  fun_of (E := p_capsule_Check_E) (H := p_capsule_Check_H) (L := fun N => LT.nil) (c := p_capsule_Check_c) (ks := p_capsule_Check_ks) (rs := p_capsule_Check_rs) (F := p_capsule_Check) (p_capsule_Check_Eok he_capsule_worded) mix Go.Proofs.Try.func20 (by kernel_rfl) (fun N => OkAll.nil) p_capsule_Check_eq hg

/-! livery/capsule.inner -/
noncomputable def p_capsule_inner_E : AE := AE.of [(3, ty3), (22, ty22), (23, ty23), (37, ty37), (59, ty59)] [(34, ⟨[.cat [.int .i64, .int .i64, .int .u32, .int .u32, .int .u64, .int .u64, .sl (.int .u8), .sl (.int .u8), .sl (.int .u8), .sl (.int .u8)]], [.sl (.int .u8)], g_capsule_said⟩), (42, ⟨[.int .u16], [.sl (.int .u8)], g_octet_U16⟩), (28, ⟨[.sls (.int .u8)], [.sl (.int .u8)], g_octet_Join⟩)]
noncomputable def p_capsule_inner_H : Hints := [(3000000, [2])]
noncomputable def p_capsule_inner_c : Code := (Go.Proofs.Try.f31).body.getD .skip
abbrev p_capsule_inner_ks : List Kd := [.cat [.int .i64, .int .i64, .int .u32, .int .u32, .int .u64, .int .u64, .sl (.int .u8), .sl (.int .u8), .sl (.int .u8), .sl (.int .u8)]]
abbrev p_capsule_inner_rs : List Kd := [.sl (.int .u8)]
noncomputable def p_capsule_inner (N : Nat) (x : (Int × Int × Int × Int × Int × Int × List Int × List Int × List Int × List Int × Unit) × Unit) : Option (List Int) :=
  (g_capsule_said ((x.1.1, x.1.2.1, x.1.2.2.1, x.1.2.2.2.1, x.1.2.2.2.2.1, x.1.2.2.2.2.2.1, x.1.2.2.2.2.2.2.1, x.1.2.2.2.2.2.2.2.1, x.1.2.2.2.2.2.2.2.2.1, x.1.2.2.2.2.2.2.2.2.2.1, ()), ())).bind fun r1 => (
  (g_octet_U16 ((IntKind.u16.wrap ((List.length x.1.2.2.2.2.2.2.2.2.1 : Nat) : Int)), ())).bind fun r2 => (
  (g_octet_Join ([r1, x.1.2.2.2.2.2.2.2.1, r2, x.1.2.2.2.2.2.2.2.2.1], ())).bind fun r3 => (
  some r3)))
theorem p_capsule_inner_eq (N : Nat) (x : Ds [.cat [.int .i64, .int .i64, .int .u32, .int .u32, .int .u64, .int .u64, .sl (.int .u8), .sl (.int .u8), .sl (.int .u8), .sl (.int .u8)]]) : funL p_capsule_inner_E p_capsule_inner_H (LT.nil) N Go.Proofs.Try.f31 p_capsule_inner_c [.cat [.int .i64, .int .i64, .int .u32, .int .u32, .int .u64, .int .u64, .sl (.int .u8), .sl (.int .u8), .sl (.int .u8), .sl (.int .u8)]] [.sl (.int .u8)] x = p_capsule_inner N x := by kernel_rfl
theorem p_capsule_inner_Eok (he_capsule_said : SigOk Go.Proofs.Try.prog 34 ⟨[.cat [.int .i64, .int .i64, .int .u32, .int .u32, .int .u64, .int .u64, .sl (.int .u8), .sl (.int .u8), .sl (.int .u8), .sl (.int .u8)]], [.sl (.int .u8)], g_capsule_said⟩) (he_octet_U16 : SigOk Go.Proofs.Try.prog 42 ⟨[.int .u16], [.sl (.int .u8)], g_octet_U16⟩) (he_octet_Join : SigOk Go.Proofs.Try.prog 28 ⟨[.sls (.int .u8)], [.sl (.int .u8)], g_octet_Join⟩) : p_capsule_inner_E.Ok Go.Proofs.Try.prog := AE.of_ok (all_cons ty3_ok (all_cons ty22_ok (all_cons ty23_ok (all_cons ty37_ok (all_cons ty59_ok all_nil))))) (all_cons ⟨he_capsule_said, enters_capsule_said⟩ (all_cons ⟨he_octet_U16, enters_octet_U16⟩ (all_cons ⟨he_octet_Join, enters_octet_Join⟩ all_nil)))
theorem p_capsule_inner_ok (he_capsule_said : SigOk Go.Proofs.Try.prog 34 ⟨[.cat [.int .i64, .int .i64, .int .u32, .int .u32, .int .u64, .int .u64, .sl (.int .u8), .sl (.int .u8), .sl (.int .u8), .sl (.int .u8)]], [.sl (.int .u8)], g_capsule_said⟩) (he_octet_U16 : SigOk Go.Proofs.Try.prog 42 ⟨[.int .u16], [.sl (.int .u8)], g_octet_U16⟩) (he_octet_Join : SigOk Go.Proofs.Try.prog 28 ⟨[.sls (.int .u8)], [.sl (.int .u8)], g_octet_Join⟩) {g : Ds [.cat [.int .i64, .int .i64, .int .u32, .int .u32, .int .u64, .int .u64, .sl (.int .u8), .sl (.int .u8), .sl (.int .u8), .sl (.int .u8)]] → Option (Rs [.sl (.int .u8)])} (hg : ∀ x r, g x = some r → ∃ N, p_capsule_inner N x = some r) : SigOk Go.Proofs.Try.prog 31 ⟨[.cat [.int .i64, .int .i64, .int .u32, .int .u32, .int .u64, .int .u64, .sl (.int .u8), .sl (.int .u8), .sl (.int .u8), .sl (.int .u8)]], [.sl (.int .u8)], g⟩ :=
  fun_of (E := p_capsule_inner_E) (H := p_capsule_inner_H) (L := fun N => LT.nil) (c := p_capsule_inner_c) (ks := p_capsule_inner_ks) (rs := p_capsule_inner_rs) (F := p_capsule_inner) (p_capsule_inner_Eok he_capsule_said he_octet_U16 he_octet_Join) mix Go.Proofs.Try.func31 (by kernel_rfl) (fun N => OkAll.nil) p_capsule_inner_eq hg

/-! livery/capsule.Words -/
noncomputable def p_capsule_Words_E : AE := AE.of [(5, ty5), (22, ty22), (23, ty23), (37, ty37)] [(30, ⟨[.cat [.int .i64, .int .i64, .int .u32, .int .u32, .int .u64, .int .u64, .sl (.int .u8), .sl (.int .u8), .sl (.int .u8), .sl (.int .u8)]], [.bool], g_capsule_worded⟩), (31, ⟨[.cat [.int .i64, .int .i64, .int .u32, .int .u32, .int .u64, .int .u64, .sl (.int .u8), .sl (.int .u8), .sl (.int .u8), .sl (.int .u8)]], [.sl (.int .u8)], g_capsule_inner⟩), (28, ⟨[.sls (.int .u8)], [.sl (.int .u8)], g_octet_Join⟩)]
noncomputable def p_capsule_Words_H : Hints := [(3000000, [2])]
noncomputable def p_capsule_Words_c : Code := (Go.Proofs.Try.f16).body.getD .skip
abbrev p_capsule_Words_ks : List Kd := [.cat [.int .i64, .int .i64, .int .u32, .int .u32, .int .u64, .int .u64, .sl (.int .u8), .sl (.int .u8), .sl (.int .u8), .sl (.int .u8)]]
abbrev p_capsule_Words_rs : List Kd := [.sl (.int .u8)]
noncomputable def p_capsule_Words (N : Nat) (x : (Int × Int × Int × Int × Int × Int × List Int × List Int × List Int × List Int × Unit) × Unit) : Option (List Int) :=
  (g_capsule_worded ((x.1.1, x.1.2.1, x.1.2.2.1, x.1.2.2.2.1, x.1.2.2.2.2.1, x.1.2.2.2.2.2.1, x.1.2.2.2.2.2.2.1, x.1.2.2.2.2.2.2.2.1, x.1.2.2.2.2.2.2.2.2.1, x.1.2.2.2.2.2.2.2.2.2.1, ()), ())).bind fun r1 => (
  if (¬ (r1 = true)) then
    some []
  else
    if 0 < 14 then (
    (g_capsule_inner ((x.1.1, x.1.2.1, x.1.2.2.1, x.1.2.2.2.1, x.1.2.2.2.2.1, x.1.2.2.2.2.2.1, x.1.2.2.2.2.2.2.1, x.1.2.2.2.2.2.2.2.1, x.1.2.2.2.2.2.2.2.2.1, x.1.2.2.2.2.2.2.2.2.2.1, ()), ())).bind fun r2 => (
    (g_octet_Join ([(List.set (List.set (List.set (List.set (List.set (List.set (List.set (List.set (List.set (List.set (List.set (List.set (List.set (List.set (List.replicate 14 0) 0 (108:Int)) 1 (105:Int)) 2 (118:Int)) 3 (101:Int)) 4 (114:Int)) 5 (121:Int)) 6 (32:Int)) 7 (99:Int)) 8 (97:Int)) 9 (112:Int)) 10 (115:Int)) 11 (117:Int)) 12 (108:Int)) 13 (101:Int)), r2], ())).bind fun r3 => (
    some r3))) else none)
theorem p_capsule_Words_eq (N : Nat) (x : Ds [.cat [.int .i64, .int .i64, .int .u32, .int .u32, .int .u64, .int .u64, .sl (.int .u8), .sl (.int .u8), .sl (.int .u8), .sl (.int .u8)]]) : funL p_capsule_Words_E p_capsule_Words_H (LT.nil) N Go.Proofs.Try.f16 p_capsule_Words_c [.cat [.int .i64, .int .i64, .int .u32, .int .u32, .int .u64, .int .u64, .sl (.int .u8), .sl (.int .u8), .sl (.int .u8), .sl (.int .u8)]] [.sl (.int .u8)] x = p_capsule_Words N x := by kernel_rfl
theorem p_capsule_Words_Eok (he_capsule_worded : SigOk Go.Proofs.Try.prog 30 ⟨[.cat [.int .i64, .int .i64, .int .u32, .int .u32, .int .u64, .int .u64, .sl (.int .u8), .sl (.int .u8), .sl (.int .u8), .sl (.int .u8)]], [.bool], g_capsule_worded⟩) (he_capsule_inner : SigOk Go.Proofs.Try.prog 31 ⟨[.cat [.int .i64, .int .i64, .int .u32, .int .u32, .int .u64, .int .u64, .sl (.int .u8), .sl (.int .u8), .sl (.int .u8), .sl (.int .u8)]], [.sl (.int .u8)], g_capsule_inner⟩) (he_octet_Join : SigOk Go.Proofs.Try.prog 28 ⟨[.sls (.int .u8)], [.sl (.int .u8)], g_octet_Join⟩) : p_capsule_Words_E.Ok Go.Proofs.Try.prog := AE.of_ok (all_cons ty5_ok (all_cons ty22_ok (all_cons ty23_ok (all_cons ty37_ok all_nil)))) (all_cons ⟨he_capsule_worded, enters_capsule_worded⟩ (all_cons ⟨he_capsule_inner, enters_capsule_inner⟩ (all_cons ⟨he_octet_Join, enters_octet_Join⟩ all_nil)))
theorem p_capsule_Words_ok (he_capsule_worded : SigOk Go.Proofs.Try.prog 30 ⟨[.cat [.int .i64, .int .i64, .int .u32, .int .u32, .int .u64, .int .u64, .sl (.int .u8), .sl (.int .u8), .sl (.int .u8), .sl (.int .u8)]], [.bool], g_capsule_worded⟩) (he_capsule_inner : SigOk Go.Proofs.Try.prog 31 ⟨[.cat [.int .i64, .int .i64, .int .u32, .int .u32, .int .u64, .int .u64, .sl (.int .u8), .sl (.int .u8), .sl (.int .u8), .sl (.int .u8)]], [.sl (.int .u8)], g_capsule_inner⟩) (he_octet_Join : SigOk Go.Proofs.Try.prog 28 ⟨[.sls (.int .u8)], [.sl (.int .u8)], g_octet_Join⟩) {g : Ds [.cat [.int .i64, .int .i64, .int .u32, .int .u32, .int .u64, .int .u64, .sl (.int .u8), .sl (.int .u8), .sl (.int .u8), .sl (.int .u8)]] → Option (Rs [.sl (.int .u8)])} (hg : ∀ x r, g x = some r → ∃ N, p_capsule_Words N x = some r) : SigOk Go.Proofs.Try.prog 16 ⟨[.cat [.int .i64, .int .i64, .int .u32, .int .u32, .int .u64, .int .u64, .sl (.int .u8), .sl (.int .u8), .sl (.int .u8), .sl (.int .u8)]], [.sl (.int .u8)], g⟩ :=
  fun_of (E := p_capsule_Words_E) (H := p_capsule_Words_H) (L := fun N => LT.nil) (c := p_capsule_Words_c) (ks := p_capsule_Words_ks) (rs := p_capsule_Words_rs) (F := p_capsule_Words) (p_capsule_Words_Eok he_capsule_worded he_capsule_inner he_octet_Join) mix Go.Proofs.Try.func16 (by kernel_rfl) (fun N => OkAll.nil) p_capsule_Words_eq hg

/-! livery/liveryref23.Words -/
noncomputable def p_ref23_Words_E : AE := AE.of [(5, ty5), (22, ty22), (23, ty23), (37, ty37)] [(29, ⟨[.cat [.int .i64, .int .i64, .int .u32, .int .u32, .int .u64, .int .u64, .sl (.int .u8), .sl (.int .u8), .sl (.int .u8), .sl (.int .u8)]], [.bool], g_ref23_worded⟩), (22, ⟨[.cat [.int .i64, .int .i64, .int .u32, .int .u32, .int .u64, .int .u64, .sl (.int .u8), .sl (.int .u8), .sl (.int .u8), .sl (.int .u8)]], [.sl (.int .u8)], g_ref23_Said⟩), (37, ⟨[.sl (.int .u8)], [.sl (.int .u8)], g_ref23_text⟩), (25, ⟨[.sls (.int .u8)], [.sl (.int .u8)], g_ref01_Join⟩)]
noncomputable def p_ref23_Words_H : Hints := [(3000000, [2])]
noncomputable def p_ref23_Words_c : Code := (Go.Proofs.Try.f23).body.getD .skip
abbrev p_ref23_Words_ks : List Kd := [.cat [.int .i64, .int .i64, .int .u32, .int .u32, .int .u64, .int .u64, .sl (.int .u8), .sl (.int .u8), .sl (.int .u8), .sl (.int .u8)]]
abbrev p_ref23_Words_rs : List Kd := [.sl (.int .u8)]
noncomputable def p_ref23_Words (N : Nat) (x : (Int × Int × Int × Int × Int × Int × List Int × List Int × List Int × List Int × Unit) × Unit) : Option (List Int) :=
  (g_ref23_worded ((x.1.1, x.1.2.1, x.1.2.2.1, x.1.2.2.2.1, x.1.2.2.2.2.1, x.1.2.2.2.2.2.1, x.1.2.2.2.2.2.2.1, x.1.2.2.2.2.2.2.2.1, x.1.2.2.2.2.2.2.2.2.1, x.1.2.2.2.2.2.2.2.2.2.1, ()), ())).bind fun r1 => (
  if (¬ (r1 = true)) then
    some []
  else
    if 0 < 14 then (
    (g_ref23_Said ((x.1.1, x.1.2.1, x.1.2.2.1, x.1.2.2.2.1, x.1.2.2.2.2.1, x.1.2.2.2.2.2.1, x.1.2.2.2.2.2.2.1, x.1.2.2.2.2.2.2.2.1, x.1.2.2.2.2.2.2.2.2.1, x.1.2.2.2.2.2.2.2.2.2.1, ()), ())).bind fun r2 => (
    (g_ref23_text (x.1.2.2.2.2.2.2.2.2.1, ())).bind fun r3 => (
    (g_ref01_Join ([(List.set (List.set (List.set (List.set (List.set (List.set (List.set (List.set (List.set (List.set (List.set (List.set (List.set (List.set (List.replicate 14 0) 0 (108:Int)) 1 (105:Int)) 2 (118:Int)) 3 (101:Int)) 4 (114:Int)) 5 (121:Int)) 6 (32:Int)) 7 (99:Int)) 8 (97:Int)) 9 (112:Int)) 10 (115:Int)) 11 (117:Int)) 12 (108:Int)) 13 (101:Int)), r2, x.1.2.2.2.2.2.2.2.1, r3], ())).bind fun r4 => (
    some r4)))) else none)
theorem p_ref23_Words_eq (N : Nat) (x : Ds [.cat [.int .i64, .int .i64, .int .u32, .int .u32, .int .u64, .int .u64, .sl (.int .u8), .sl (.int .u8), .sl (.int .u8), .sl (.int .u8)]]) : funL p_ref23_Words_E p_ref23_Words_H (LT.nil) N Go.Proofs.Try.f23 p_ref23_Words_c [.cat [.int .i64, .int .i64, .int .u32, .int .u32, .int .u64, .int .u64, .sl (.int .u8), .sl (.int .u8), .sl (.int .u8), .sl (.int .u8)]] [.sl (.int .u8)] x = p_ref23_Words N x := by kernel_rfl
theorem p_ref23_Words_Eok (he_ref23_worded : SigOk Go.Proofs.Try.prog 29 ⟨[.cat [.int .i64, .int .i64, .int .u32, .int .u32, .int .u64, .int .u64, .sl (.int .u8), .sl (.int .u8), .sl (.int .u8), .sl (.int .u8)]], [.bool], g_ref23_worded⟩) (he_ref23_Said : SigOk Go.Proofs.Try.prog 22 ⟨[.cat [.int .i64, .int .i64, .int .u32, .int .u32, .int .u64, .int .u64, .sl (.int .u8), .sl (.int .u8), .sl (.int .u8), .sl (.int .u8)]], [.sl (.int .u8)], g_ref23_Said⟩) (he_ref23_text : SigOk Go.Proofs.Try.prog 37 ⟨[.sl (.int .u8)], [.sl (.int .u8)], g_ref23_text⟩) (he_ref01_Join : SigOk Go.Proofs.Try.prog 25 ⟨[.sls (.int .u8)], [.sl (.int .u8)], g_ref01_Join⟩) : p_ref23_Words_E.Ok Go.Proofs.Try.prog := AE.of_ok (all_cons ty5_ok (all_cons ty22_ok (all_cons ty23_ok (all_cons ty37_ok all_nil)))) (all_cons ⟨he_ref23_worded, enters_ref23_worded⟩ (all_cons ⟨he_ref23_Said, enters_ref23_Said⟩ (all_cons ⟨he_ref23_text, enters_ref23_text⟩ (all_cons ⟨he_ref01_Join, enters_ref01_Join⟩ all_nil))))
theorem p_ref23_Words_ok (he_ref23_worded : SigOk Go.Proofs.Try.prog 29 ⟨[.cat [.int .i64, .int .i64, .int .u32, .int .u32, .int .u64, .int .u64, .sl (.int .u8), .sl (.int .u8), .sl (.int .u8), .sl (.int .u8)]], [.bool], g_ref23_worded⟩) (he_ref23_Said : SigOk Go.Proofs.Try.prog 22 ⟨[.cat [.int .i64, .int .i64, .int .u32, .int .u32, .int .u64, .int .u64, .sl (.int .u8), .sl (.int .u8), .sl (.int .u8), .sl (.int .u8)]], [.sl (.int .u8)], g_ref23_Said⟩) (he_ref23_text : SigOk Go.Proofs.Try.prog 37 ⟨[.sl (.int .u8)], [.sl (.int .u8)], g_ref23_text⟩) (he_ref01_Join : SigOk Go.Proofs.Try.prog 25 ⟨[.sls (.int .u8)], [.sl (.int .u8)], g_ref01_Join⟩) {g : Ds [.cat [.int .i64, .int .i64, .int .u32, .int .u32, .int .u64, .int .u64, .sl (.int .u8), .sl (.int .u8), .sl (.int .u8), .sl (.int .u8)]] → Option (Rs [.sl (.int .u8)])} (hg : ∀ x r, g x = some r → ∃ N, p_ref23_Words N x = some r) : SigOk Go.Proofs.Try.prog 23 ⟨[.cat [.int .i64, .int .i64, .int .u32, .int .u32, .int .u64, .int .u64, .sl (.int .u8), .sl (.int .u8), .sl (.int .u8), .sl (.int .u8)]], [.sl (.int .u8)], g⟩ :=
  fun_of (E := p_ref23_Words_E) (H := p_ref23_Words_H) (L := fun N => LT.nil) (c := p_ref23_Words_c) (ks := p_ref23_Words_ks) (rs := p_ref23_Words_rs) (F := p_ref23_Words) (p_ref23_Words_Eok he_ref23_worded he_ref23_Said he_ref23_text he_ref01_Join) mix Go.Proofs.Try.func23 (by kernel_rfl) (fun N => OkAll.nil) p_ref23_Words_eq hg

/-! livery/capsule.Put -/
noncomputable def p_capsule_Put_E : AE := AE.of [(22, ty22), (23, ty23), (37, ty37)] [(20, ⟨[.cat [.int .i64, .int .i64, .int .u32, .int .u32, .int .u64, .int .u64, .sl (.int .u8), .sl (.int .u8), .sl (.int .u8), .sl (.int .u8)]], [.int .i64], g_capsule_Check⟩), (31, ⟨[.cat [.int .i64, .int .i64, .int .u32, .int .u32, .int .u64, .int .u64, .sl (.int .u8), .sl (.int .u8), .sl (.int .u8), .sl (.int .u8)]], [.sl (.int .u8)], g_capsule_inner⟩), (28, ⟨[.sls (.int .u8)], [.sl (.int .u8)], g_octet_Join⟩)]
noncomputable def p_capsule_Put_H : Hints := [(3000000, [2, 3])]
noncomputable def p_capsule_Put_c : Code := (Go.Proofs.Try.f18).body.getD .skip
abbrev p_capsule_Put_ks : List Kd := [.cat [.int .i64, .int .i64, .int .u32, .int .u32, .int .u64, .int .u64, .sl (.int .u8), .sl (.int .u8), .sl (.int .u8), .sl (.int .u8)]]
abbrev p_capsule_Put_rs : List Kd := [.sl (.int .u8), .int .i64]
noncomputable def p_capsule_Put (N : Nat) (x : (Int × Int × Int × Int × Int × Int × List Int × List Int × List Int × List Int × Unit) × Unit) : Option (List Int × Int) :=
  (g_capsule_Check ((x.1.1, x.1.2.1, x.1.2.2.1, x.1.2.2.2.1, x.1.2.2.2.2.1, x.1.2.2.2.2.2.1, x.1.2.2.2.2.2.2.1, x.1.2.2.2.2.2.2.2.1, x.1.2.2.2.2.2.2.2.2.1, x.1.2.2.2.2.2.2.2.2.2.1, ()), ())).bind fun r1 => (
  if (r1 ≠ (0:Int)) then
    some ([], r1)
  else
    (g_capsule_inner ((x.1.1, x.1.2.1, x.1.2.2.1, x.1.2.2.2.1, x.1.2.2.2.2.1, x.1.2.2.2.2.2.1, x.1.2.2.2.2.2.2.1, x.1.2.2.2.2.2.2.2.1, x.1.2.2.2.2.2.2.2.2.1, x.1.2.2.2.2.2.2.2.2.2.1, ()), ())).bind fun r2 => (
    (g_octet_Join ([r2, x.1.2.2.2.2.2.2.2.2.2.1], ())).bind fun r3 => (
    some (r3, (0:Int)))))
theorem p_capsule_Put_eq (N : Nat) (x : Ds [.cat [.int .i64, .int .i64, .int .u32, .int .u32, .int .u64, .int .u64, .sl (.int .u8), .sl (.int .u8), .sl (.int .u8), .sl (.int .u8)]]) : funL p_capsule_Put_E p_capsule_Put_H (LT.nil) N Go.Proofs.Try.f18 p_capsule_Put_c [.cat [.int .i64, .int .i64, .int .u32, .int .u32, .int .u64, .int .u64, .sl (.int .u8), .sl (.int .u8), .sl (.int .u8), .sl (.int .u8)]] [.sl (.int .u8), .int .i64] x = p_capsule_Put N x := by kernel_rfl
theorem p_capsule_Put_Eok (he_capsule_Check : SigOk Go.Proofs.Try.prog 20 ⟨[.cat [.int .i64, .int .i64, .int .u32, .int .u32, .int .u64, .int .u64, .sl (.int .u8), .sl (.int .u8), .sl (.int .u8), .sl (.int .u8)]], [.int .i64], g_capsule_Check⟩) (he_capsule_inner : SigOk Go.Proofs.Try.prog 31 ⟨[.cat [.int .i64, .int .i64, .int .u32, .int .u32, .int .u64, .int .u64, .sl (.int .u8), .sl (.int .u8), .sl (.int .u8), .sl (.int .u8)]], [.sl (.int .u8)], g_capsule_inner⟩) (he_octet_Join : SigOk Go.Proofs.Try.prog 28 ⟨[.sls (.int .u8)], [.sl (.int .u8)], g_octet_Join⟩) : p_capsule_Put_E.Ok Go.Proofs.Try.prog := AE.of_ok (all_cons ty22_ok (all_cons ty23_ok (all_cons ty37_ok all_nil))) (all_cons ⟨he_capsule_Check, enters_capsule_Check⟩ (all_cons ⟨he_capsule_inner, enters_capsule_inner⟩ (all_cons ⟨he_octet_Join, enters_octet_Join⟩ all_nil)))
theorem p_capsule_Put_ok (he_capsule_Check : SigOk Go.Proofs.Try.prog 20 ⟨[.cat [.int .i64, .int .i64, .int .u32, .int .u32, .int .u64, .int .u64, .sl (.int .u8), .sl (.int .u8), .sl (.int .u8), .sl (.int .u8)]], [.int .i64], g_capsule_Check⟩) (he_capsule_inner : SigOk Go.Proofs.Try.prog 31 ⟨[.cat [.int .i64, .int .i64, .int .u32, .int .u32, .int .u64, .int .u64, .sl (.int .u8), .sl (.int .u8), .sl (.int .u8), .sl (.int .u8)]], [.sl (.int .u8)], g_capsule_inner⟩) (he_octet_Join : SigOk Go.Proofs.Try.prog 28 ⟨[.sls (.int .u8)], [.sl (.int .u8)], g_octet_Join⟩) {g : Ds [.cat [.int .i64, .int .i64, .int .u32, .int .u32, .int .u64, .int .u64, .sl (.int .u8), .sl (.int .u8), .sl (.int .u8), .sl (.int .u8)]] → Option (Rs [.sl (.int .u8), .int .i64])} (hg : ∀ x r, g x = some r → ∃ N, p_capsule_Put N x = some r) : SigOk Go.Proofs.Try.prog 18 ⟨[.cat [.int .i64, .int .i64, .int .u32, .int .u32, .int .u64, .int .u64, .sl (.int .u8), .sl (.int .u8), .sl (.int .u8), .sl (.int .u8)]], [.sl (.int .u8), .int .i64], g⟩ :=
  fun_of (E := p_capsule_Put_E) (H := p_capsule_Put_H) (L := fun N => LT.nil) (c := p_capsule_Put_c) (ks := p_capsule_Put_ks) (rs := p_capsule_Put_rs) (F := p_capsule_Put) (p_capsule_Put_Eok he_capsule_Check he_capsule_inner he_octet_Join) mix Go.Proofs.Try.func18 (by kernel_rfl) (fun N => OkAll.nil) p_capsule_Put_eq hg

/-! livery/liveryref23.Put -/
noncomputable def p_ref23_Put_E : AE := AE.of [(5, ty5), (22, ty22), (23, ty23), (37, ty37)] [(15, ⟨[.cat [.int .i64, .int .i64, .int .u32, .int .u32, .int .u64, .int .u64, .sl (.int .u8), .sl (.int .u8), .sl (.int .u8), .sl (.int .u8)]], [.bool], g_ref23_May⟩), (23, ⟨[.cat [.int .i64, .int .i64, .int .u32, .int .u32, .int .u64, .int .u64, .sl (.int .u8), .sl (.int .u8), .sl (.int .u8), .sl (.int .u8)]], [.sl (.int .u8)], g_ref23_Words⟩), (25, ⟨[.sls (.int .u8)], [.sl (.int .u8)], g_ref01_Join⟩)]
noncomputable def p_ref23_Put_H : Hints := [(3000000, [2, 3])]
noncomputable def p_ref23_Put_c : Code := (Go.Proofs.Try.f19).body.getD .skip
abbrev p_ref23_Put_ks : List Kd := [.cat [.int .i64, .int .i64, .int .u32, .int .u32, .int .u64, .int .u64, .sl (.int .u8), .sl (.int .u8), .sl (.int .u8), .sl (.int .u8)]]
abbrev p_ref23_Put_rs : List Kd := [.sl (.int .u8), .int .i64]
noncomputable def p_ref23_Put (N : Nat) (x : (Int × Int × Int × Int × Int × Int × List Int × List Int × List Int × List Int × Unit) × Unit) : Option (List Int × Int) :=
  (g_ref23_May ((x.1.1, x.1.2.1, x.1.2.2.1, x.1.2.2.2.1, x.1.2.2.2.2.1, x.1.2.2.2.2.2.1, x.1.2.2.2.2.2.2.1, x.1.2.2.2.2.2.2.2.1, x.1.2.2.2.2.2.2.2.2.1, x.1.2.2.2.2.2.2.2.2.2.1, ()), ())).bind fun r1 => (
  if (¬ (r1 = true)) then
    some ([], (230:Int))
  else
    (g_ref23_Words ((x.1.1, x.1.2.1, x.1.2.2.1, x.1.2.2.2.1, x.1.2.2.2.2.1, x.1.2.2.2.2.2.1, x.1.2.2.2.2.2.2.1, x.1.2.2.2.2.2.2.2.1, x.1.2.2.2.2.2.2.2.2.1, x.1.2.2.2.2.2.2.2.2.2.1, ()), ())).bind fun r2 => (
    if 14 ≤ (List.length r2) then (
    (g_ref01_Join ([(List.take ((List.length r2) - 14) (List.drop 14 r2)), x.1.2.2.2.2.2.2.2.2.2.1], ())).bind fun r3 => (
    some (r3, (0:Int)))) else none))
theorem p_ref23_Put_eq (N : Nat) (x : Ds [.cat [.int .i64, .int .i64, .int .u32, .int .u32, .int .u64, .int .u64, .sl (.int .u8), .sl (.int .u8), .sl (.int .u8), .sl (.int .u8)]]) : funL p_ref23_Put_E p_ref23_Put_H (LT.nil) N Go.Proofs.Try.f19 p_ref23_Put_c [.cat [.int .i64, .int .i64, .int .u32, .int .u32, .int .u64, .int .u64, .sl (.int .u8), .sl (.int .u8), .sl (.int .u8), .sl (.int .u8)]] [.sl (.int .u8), .int .i64] x = p_ref23_Put N x := by kernel_rfl
theorem p_ref23_Put_Eok (he_ref23_May : SigOk Go.Proofs.Try.prog 15 ⟨[.cat [.int .i64, .int .i64, .int .u32, .int .u32, .int .u64, .int .u64, .sl (.int .u8), .sl (.int .u8), .sl (.int .u8), .sl (.int .u8)]], [.bool], g_ref23_May⟩) (he_ref23_Words : SigOk Go.Proofs.Try.prog 23 ⟨[.cat [.int .i64, .int .i64, .int .u32, .int .u32, .int .u64, .int .u64, .sl (.int .u8), .sl (.int .u8), .sl (.int .u8), .sl (.int .u8)]], [.sl (.int .u8)], g_ref23_Words⟩) (he_ref01_Join : SigOk Go.Proofs.Try.prog 25 ⟨[.sls (.int .u8)], [.sl (.int .u8)], g_ref01_Join⟩) : p_ref23_Put_E.Ok Go.Proofs.Try.prog := AE.of_ok (all_cons ty5_ok (all_cons ty22_ok (all_cons ty23_ok (all_cons ty37_ok all_nil)))) (all_cons ⟨he_ref23_May, enters_ref23_May⟩ (all_cons ⟨he_ref23_Words, enters_ref23_Words⟩ (all_cons ⟨he_ref01_Join, enters_ref01_Join⟩ all_nil)))
theorem p_ref23_Put_ok (he_ref23_May : SigOk Go.Proofs.Try.prog 15 ⟨[.cat [.int .i64, .int .i64, .int .u32, .int .u32, .int .u64, .int .u64, .sl (.int .u8), .sl (.int .u8), .sl (.int .u8), .sl (.int .u8)]], [.bool], g_ref23_May⟩) (he_ref23_Words : SigOk Go.Proofs.Try.prog 23 ⟨[.cat [.int .i64, .int .i64, .int .u32, .int .u32, .int .u64, .int .u64, .sl (.int .u8), .sl (.int .u8), .sl (.int .u8), .sl (.int .u8)]], [.sl (.int .u8)], g_ref23_Words⟩) (he_ref01_Join : SigOk Go.Proofs.Try.prog 25 ⟨[.sls (.int .u8)], [.sl (.int .u8)], g_ref01_Join⟩) {g : Ds [.cat [.int .i64, .int .i64, .int .u32, .int .u32, .int .u64, .int .u64, .sl (.int .u8), .sl (.int .u8), .sl (.int .u8), .sl (.int .u8)]] → Option (Rs [.sl (.int .u8), .int .i64])} (hg : ∀ x r, g x = some r → ∃ N, p_ref23_Put N x = some r) : SigOk Go.Proofs.Try.prog 19 ⟨[.cat [.int .i64, .int .i64, .int .u32, .int .u32, .int .u64, .int .u64, .sl (.int .u8), .sl (.int .u8), .sl (.int .u8), .sl (.int .u8)]], [.sl (.int .u8), .int .i64], g⟩ :=
  fun_of (E := p_ref23_Put_E) (H := p_ref23_Put_H) (L := fun N => LT.nil) (c := p_ref23_Put_c) (ks := p_ref23_Put_ks) (rs := p_ref23_Put_rs) (F := p_ref23_Put) (p_ref23_Put_Eok he_ref23_May he_ref23_Words he_ref01_Join) mix Go.Proofs.Try.func19 (by kernel_rfl) (fun N => OkAll.nil) p_ref23_Put_eq hg

/-! livery/capsule.Same -/
noncomputable def p_capsule_Same_E : AE := AE.ofQ [(3, ty3), (22, ty22), (32, ty32), (35, ty35), (37, ty37)] [(32, ⟨[.sl (.int .u8), .sl (.int .u8)], [.bool], g_octet_Same⟩)] [(35, .u64, 2)]
noncomputable def p_capsule_Same_H : Hints := [(3000000, [4])]
noncomputable def p_capsule_Same_c : Code := (Go.Proofs.Try.f17).body.getD .skip
abbrev p_capsule_Same_ks : List Kd := [.cat [.int .i64, .int .i64, .int .u32, .int .u32, .int .u64, .int .u64, .sl (.int .u8), .sl (.int .u8), .sl (.int .u8), .sl (.int .u8)], .cat [.int .i64, .int .i64, .int .u32, .int .u32, .int .u64, .int .u64, .sl (.int .u8), .sl (.int .u8), .sl (.int .u8), .sl (.int .u8)]]
abbrev p_capsule_Same_rs : List Kd := [.bool]
noncomputable def p_capsule_Same (N : Nat) (x : (Int × Int × Int × Int × Int × Int × List Int × List Int × List Int × List Int × Unit) × (Int × Int × Int × Int × Int × Int × List Int × List Int × List Int × List Int × Unit) × Unit) : Option (Bool) :=
  if (x.1.1 = x.2.1.1) then
    if (x.1.2.1 = x.2.1.2.1) then
      if (x.1.2.2.1 = x.2.1.2.2.1) then
        if (x.1.2.2.2.1 = x.2.1.2.2.2.1) then
          if ((x.1.2.2.2.2.1 :: (x.1.2.2.2.2.2.1 :: [])) = (x.2.1.2.2.2.2.1 :: (x.2.1.2.2.2.2.2.1 :: []))) then
            (g_octet_Same (x.1.2.2.2.2.2.2.1, x.2.1.2.2.2.2.2.2.1, ())).bind fun r1 => (
            if (r1 = true) then
              (g_octet_Same (x.1.2.2.2.2.2.2.2.1, x.2.1.2.2.2.2.2.2.2.1, ())).bind fun r2 => (
              if (r2 = true) then
                (g_octet_Same (x.1.2.2.2.2.2.2.2.2.1, x.2.1.2.2.2.2.2.2.2.2.1, ())).bind fun r3 => (
                if (r3 = true) then
                  (g_octet_Same (x.1.2.2.2.2.2.2.2.2.2.1, x.2.1.2.2.2.2.2.2.2.2.2.1, ())).bind fun r4 => (
                  some (decide (r4 = true)))
                else
                  some false)
              else
                some false)
            else
              some false)
          else
            some false
        else
          some false
      else
        some false
    else
      some false
  else
    some false
theorem p_capsule_Same_eq (N : Nat) (x : Ds [.cat [.int .i64, .int .i64, .int .u32, .int .u32, .int .u64, .int .u64, .sl (.int .u8), .sl (.int .u8), .sl (.int .u8), .sl (.int .u8)], .cat [.int .i64, .int .i64, .int .u32, .int .u32, .int .u64, .int .u64, .sl (.int .u8), .sl (.int .u8), .sl (.int .u8), .sl (.int .u8)]]) : funL p_capsule_Same_E p_capsule_Same_H (LT.nil) N Go.Proofs.Try.f17 p_capsule_Same_c [.cat [.int .i64, .int .i64, .int .u32, .int .u32, .int .u64, .int .u64, .sl (.int .u8), .sl (.int .u8), .sl (.int .u8), .sl (.int .u8)], .cat [.int .i64, .int .i64, .int .u32, .int .u32, .int .u64, .int .u64, .sl (.int .u8), .sl (.int .u8), .sl (.int .u8), .sl (.int .u8)]] [.bool] x = p_capsule_Same N x := by kernel_rfl
theorem p_capsule_Same_Eok (he_octet_Same : SigOk Go.Proofs.Try.prog 32 ⟨[.sl (.int .u8), .sl (.int .u8)], [.bool], g_octet_Same⟩) : p_capsule_Same_E.Ok Go.Proofs.Try.prog := AE.ofQ_ok (all_cons ty3_ok (all_cons ty22_ok (all_cons ty32_ok (all_cons ty35_ok (all_cons ty37_ok all_nil))))) (all_cons ⟨he_octet_Same, enters_octet_Same⟩ all_nil) (all_cons steq35_ok all_nil)
theorem p_capsule_Same_ok (he_octet_Same : SigOk Go.Proofs.Try.prog 32 ⟨[.sl (.int .u8), .sl (.int .u8)], [.bool], g_octet_Same⟩) {g : Ds [.cat [.int .i64, .int .i64, .int .u32, .int .u32, .int .u64, .int .u64, .sl (.int .u8), .sl (.int .u8), .sl (.int .u8), .sl (.int .u8)], .cat [.int .i64, .int .i64, .int .u32, .int .u32, .int .u64, .int .u64, .sl (.int .u8), .sl (.int .u8), .sl (.int .u8), .sl (.int .u8)]] → Option (Rs [.bool])} (hg : ∀ x r, g x = some r → ∃ N, p_capsule_Same N x = some r) : SigOk Go.Proofs.Try.prog 17 ⟨[.cat [.int .i64, .int .i64, .int .u32, .int .u32, .int .u64, .int .u64, .sl (.int .u8), .sl (.int .u8), .sl (.int .u8), .sl (.int .u8)], .cat [.int .i64, .int .i64, .int .u32, .int .u32, .int .u64, .int .u64, .sl (.int .u8), .sl (.int .u8), .sl (.int .u8), .sl (.int .u8)]], [.bool], g⟩ :=
  fun_of (E := p_capsule_Same_E) (H := p_capsule_Same_H) (L := fun N => LT.nil) (c := p_capsule_Same_c) (ks := p_capsule_Same_ks) (rs := p_capsule_Same_rs) (F := p_capsule_Same) (p_capsule_Same_Eok he_octet_Same) mix Go.Proofs.Try.func17 (by kernel_rfl) (fun N => OkAll.nil) p_capsule_Same_eq hg

/-! livery/liveryref23.Same -/
noncomputable def p_ref23_Same_E : AE := AE.ofQ [(3, ty3), (22, ty22), (32, ty32), (35, ty35), (37, ty37)] [(11, ⟨[.sl (.int .u8), .sl (.int .u8)], [.bool], g_ref01_Equal⟩)] [(35, .u64, 2)]
noncomputable def p_ref23_Same_H : Hints := [(3000000, [4])]
noncomputable def p_ref23_Same_c : Code := (Go.Proofs.Try.f24).body.getD .skip
abbrev p_ref23_Same_ks : List Kd := [.cat [.int .i64, .int .i64, .int .u32, .int .u32, .int .u64, .int .u64, .sl (.int .u8), .sl (.int .u8), .sl (.int .u8), .sl (.int .u8)], .cat [.int .i64, .int .i64, .int .u32, .int .u32, .int .u64, .int .u64, .sl (.int .u8), .sl (.int .u8), .sl (.int .u8), .sl (.int .u8)]]
abbrev p_ref23_Same_rs : List Kd := [.bool]
noncomputable def p_ref23_Same (N : Nat) (x : (Int × Int × Int × Int × Int × Int × List Int × List Int × List Int × List Int × Unit) × (Int × Int × Int × Int × Int × Int × List Int × List Int × List Int × List Int × Unit) × Unit) : Option (Bool) :=
  if (x.1.1 = x.2.1.1) then
    if (x.1.2.1 = x.2.1.2.1) then
      if (x.1.2.2.1 = x.2.1.2.2.1) then
        if (x.1.2.2.2.1 = x.2.1.2.2.2.1) then
          if ((x.1.2.2.2.2.1 :: (x.1.2.2.2.2.2.1 :: [])) = (x.2.1.2.2.2.2.1 :: (x.2.1.2.2.2.2.2.1 :: []))) then
            (g_ref01_Equal (x.1.2.2.2.2.2.2.1, x.2.1.2.2.2.2.2.2.1, ())).bind fun r1 => (
            if (r1 = true) then
              (g_ref01_Equal (x.1.2.2.2.2.2.2.2.1, x.2.1.2.2.2.2.2.2.2.1, ())).bind fun r2 => (
              if (r2 = true) then
                (g_ref01_Equal (x.1.2.2.2.2.2.2.2.2.1, x.2.1.2.2.2.2.2.2.2.2.1, ())).bind fun r3 => (
                if (r3 = true) then
                  (g_ref01_Equal (x.1.2.2.2.2.2.2.2.2.2.1, x.2.1.2.2.2.2.2.2.2.2.2.1, ())).bind fun r4 => (
                  some (decide (r4 = true)))
                else
                  some false)
              else
                some false)
            else
              some false)
          else
            some false
        else
          some false
      else
        some false
    else
      some false
  else
    some false
theorem p_ref23_Same_eq (N : Nat) (x : Ds [.cat [.int .i64, .int .i64, .int .u32, .int .u32, .int .u64, .int .u64, .sl (.int .u8), .sl (.int .u8), .sl (.int .u8), .sl (.int .u8)], .cat [.int .i64, .int .i64, .int .u32, .int .u32, .int .u64, .int .u64, .sl (.int .u8), .sl (.int .u8), .sl (.int .u8), .sl (.int .u8)]]) : funL p_ref23_Same_E p_ref23_Same_H (LT.nil) N Go.Proofs.Try.f24 p_ref23_Same_c [.cat [.int .i64, .int .i64, .int .u32, .int .u32, .int .u64, .int .u64, .sl (.int .u8), .sl (.int .u8), .sl (.int .u8), .sl (.int .u8)], .cat [.int .i64, .int .i64, .int .u32, .int .u32, .int .u64, .int .u64, .sl (.int .u8), .sl (.int .u8), .sl (.int .u8), .sl (.int .u8)]] [.bool] x = p_ref23_Same N x := by kernel_rfl
theorem p_ref23_Same_Eok (he_ref01_Equal : SigOk Go.Proofs.Try.prog 11 ⟨[.sl (.int .u8), .sl (.int .u8)], [.bool], g_ref01_Equal⟩) : p_ref23_Same_E.Ok Go.Proofs.Try.prog := AE.ofQ_ok (all_cons ty3_ok (all_cons ty22_ok (all_cons ty32_ok (all_cons ty35_ok (all_cons ty37_ok all_nil))))) (all_cons ⟨he_ref01_Equal, enters_ref01_Equal⟩ all_nil) (all_cons steq35_ok all_nil)
theorem p_ref23_Same_ok (he_ref01_Equal : SigOk Go.Proofs.Try.prog 11 ⟨[.sl (.int .u8), .sl (.int .u8)], [.bool], g_ref01_Equal⟩) {g : Ds [.cat [.int .i64, .int .i64, .int .u32, .int .u32, .int .u64, .int .u64, .sl (.int .u8), .sl (.int .u8), .sl (.int .u8), .sl (.int .u8)], .cat [.int .i64, .int .i64, .int .u32, .int .u32, .int .u64, .int .u64, .sl (.int .u8), .sl (.int .u8), .sl (.int .u8), .sl (.int .u8)]] → Option (Rs [.bool])} (hg : ∀ x r, g x = some r → ∃ N, p_ref23_Same N x = some r) : SigOk Go.Proofs.Try.prog 24 ⟨[.cat [.int .i64, .int .i64, .int .u32, .int .u32, .int .u64, .int .u64, .sl (.int .u8), .sl (.int .u8), .sl (.int .u8), .sl (.int .u8)], .cat [.int .i64, .int .i64, .int .u32, .int .u32, .int .u64, .int .u64, .sl (.int .u8), .sl (.int .u8), .sl (.int .u8), .sl (.int .u8)]], [.bool], g⟩ :=
  fun_of (E := p_ref23_Same_E) (H := p_ref23_Same_H) (L := fun N => LT.nil) (c := p_ref23_Same_c) (ks := p_ref23_Same_ks) (rs := p_ref23_Same_rs) (F := p_ref23_Same) (p_ref23_Same_Eok he_ref01_Equal) mix Go.Proofs.Try.func24 (by kernel_rfl) (fun N => OkAll.nil) p_ref23_Same_eq hg

/-! livery/liverylaw23.CapsulePuts -/
noncomputable def p_law23_CapsulePuts_E : AE := AE.ofQ [(4, ty4), (37, ty37)] [(8, ⟨[], [.bool], g_law23_live⟩), (14, ⟨[.cat [.int .i64, .int .i64, .int .u32, .int .u32, .int .u64, .int .u64, .sl (.int .u8), .sl (.int .u8), .sl (.int .u8), .sl (.int .u8)]], [.bool], g_law23_big⟩), (18, ⟨[.cat [.int .i64, .int .i64, .int .u32, .int .u32, .int .u64, .int .u64, .sl (.int .u8), .sl (.int .u8), .sl (.int .u8), .sl (.int .u8)]], [.sl (.int .u8), .int .i64], g_capsule_Put⟩), (19, ⟨[.cat [.int .i64, .int .i64, .int .u32, .int .u32, .int .u64, .int .u64, .sl (.int .u8), .sl (.int .u8), .sl (.int .u8), .sl (.int .u8)]], [.sl (.int .u8), .int .i64], g_ref23_Put⟩), (11, ⟨[.sl (.int .u8), .sl (.int .u8)], [.bool], g_ref01_Equal⟩), (20, ⟨[.cat [.int .i64, .int .i64, .int .u32, .int .u32, .int .u64, .int .u64, .sl (.int .u8), .sl (.int .u8), .sl (.int .u8), .sl (.int .u8)]], [.int .i64], g_capsule_Check⟩), (15, ⟨[.cat [.int .i64, .int .i64, .int .u32, .int .u32, .int .u64, .int .u64, .sl (.int .u8), .sl (.int .u8), .sl (.int .u8), .sl (.int .u8)]], [.bool], g_ref23_May⟩), (21, ⟨[.cat [.int .i64, .int .i64, .int .u32, .int .u32, .int .u64, .int .u64, .sl (.int .u8), .sl (.int .u8), .sl (.int .u8), .sl (.int .u8)]], [.sl (.int .u8)], g_capsule_Said⟩), (22, ⟨[.cat [.int .i64, .int .i64, .int .u32, .int .u32, .int .u64, .int .u64, .sl (.int .u8), .sl (.int .u8), .sl (.int .u8), .sl (.int .u8)]], [.sl (.int .u8)], g_ref23_Said⟩), (16, ⟨[.cat [.int .i64, .int .i64, .int .u32, .int .u32, .int .u64, .int .u64, .sl (.int .u8), .sl (.int .u8), .sl (.int .u8), .sl (.int .u8)]], [.sl (.int .u8)], g_capsule_Words⟩), (23, ⟨[.cat [.int .i64, .int .i64, .int .u32, .int .u32, .int .u64, .int .u64, .sl (.int .u8), .sl (.int .u8), .sl (.int .u8), .sl (.int .u8)]], [.sl (.int .u8)], g_ref23_Words⟩), (17, ⟨[.cat [.int .i64, .int .i64, .int .u32, .int .u32, .int .u64, .int .u64, .sl (.int .u8), .sl (.int .u8), .sl (.int .u8), .sl (.int .u8)], .cat [.int .i64, .int .i64, .int .u32, .int .u32, .int .u64, .int .u64, .sl (.int .u8), .sl (.int .u8), .sl (.int .u8), .sl (.int .u8)]], [.bool], g_capsule_Same⟩), (24, ⟨[.cat [.int .i64, .int .i64, .int .u32, .int .u32, .int .u64, .int .u64, .sl (.int .u8), .sl (.int .u8), .sl (.int .u8), .sl (.int .u8)], .cat [.int .i64, .int .i64, .int .u32, .int .u32, .int .u64, .int .u64, .sl (.int .u8), .sl (.int .u8), .sl (.int .u8), .sl (.int .u8)]], [.bool], g_ref23_Same⟩)] [(35, .u64, 2)]
noncomputable def p_law23_CapsulePuts_H : Hints := [(3000000, [4])]
noncomputable def p_law23_CapsulePuts_c : Code := (Go.Proofs.Try.f5).body.getD .skip
abbrev p_law23_CapsulePuts_ks : List Kd := [.cat [.int .i64, .int .i64, .int .u32, .int .u32, .int .u64, .int .u64, .sl (.int .u8), .sl (.int .u8), .sl (.int .u8), .sl (.int .u8)], .cat [.int .i64, .int .i64, .int .u32, .int .u32, .int .u64, .int .u64, .sl (.int .u8), .sl (.int .u8), .sl (.int .u8), .sl (.int .u8)]]
abbrev p_law23_CapsulePuts_rs : List Kd := [.bool]
noncomputable def p_law23_CapsulePuts (N : Nat) (x : (Int × Int × Int × Int × Int × Int × List Int × List Int × List Int × List Int × Unit) × (Int × Int × Int × Int × Int × Int × List Int × List Int × List Int × List Int × Unit) × Unit) : Option (Bool) :=
  (g_law23_live (())).bind fun r1 => (
  if (¬ (r1 = true)) then
    (g_law23_live (())).bind fun r2 => (
    some (decide (r2 = true)))
  else
    (g_law23_big ((x.1.1, x.1.2.1, x.1.2.2.1, x.1.2.2.2.1, x.1.2.2.2.2.1, x.1.2.2.2.2.2.1, x.1.2.2.2.2.2.2.1, x.1.2.2.2.2.2.2.2.1, x.1.2.2.2.2.2.2.2.2.1, x.1.2.2.2.2.2.2.2.2.2.1, ()), ())).bind fun r3 => (
    if (r3 = true) then
      (g_law23_live (())).bind fun r4 => (
      some (decide (r4 = true)))
    else
      (g_law23_big ((x.2.1.1, x.2.1.2.1, x.2.1.2.2.1, x.2.1.2.2.2.1, x.2.1.2.2.2.2.1, x.2.1.2.2.2.2.2.1, x.2.1.2.2.2.2.2.2.1, x.2.1.2.2.2.2.2.2.2.1, x.2.1.2.2.2.2.2.2.2.2.1, x.2.1.2.2.2.2.2.2.2.2.2.1, ()), ())).bind fun r5 => (
      if (r5 = true) then
        (g_law23_live (())).bind fun r6 => (
        some (decide (r6 = true)))
      else
        (g_capsule_Put ((x.1.1, x.1.2.1, x.1.2.2.1, x.1.2.2.2.1, x.1.2.2.2.2.1, x.1.2.2.2.2.2.1, x.1.2.2.2.2.2.2.1, x.1.2.2.2.2.2.2.2.1, x.1.2.2.2.2.2.2.2.2.1, x.1.2.2.2.2.2.2.2.2.2.1, ()), ())).bind fun r7 => (
        (g_ref23_Put ((x.1.1, x.1.2.1, x.1.2.2.1, x.1.2.2.2.1, x.1.2.2.2.2.1, x.1.2.2.2.2.2.1, x.1.2.2.2.2.2.2.1, x.1.2.2.2.2.2.2.2.1, x.1.2.2.2.2.2.2.2.2.1, x.1.2.2.2.2.2.2.2.2.2.1, ()), ())).bind fun r8 => (
        (g_ref01_Equal (r7.1, r8.1, ())).bind fun r9 => (
        if (¬ (r9 = true)) then
          some false
        else
          if (r7.2 ≠ r8.2) then
            some false
          else
            (g_capsule_Check ((x.1.1, x.1.2.1, x.1.2.2.1, x.1.2.2.2.1, x.1.2.2.2.2.1, x.1.2.2.2.2.2.1, x.1.2.2.2.2.2.2.1, x.1.2.2.2.2.2.2.2.1, x.1.2.2.2.2.2.2.2.2.1, x.1.2.2.2.2.2.2.2.2.2.1, ()), ())).bind fun r10 => (
            (g_ref23_May ((x.1.1, x.1.2.1, x.1.2.2.1, x.1.2.2.2.1, x.1.2.2.2.2.1, x.1.2.2.2.2.2.1, x.1.2.2.2.2.2.2.1, x.1.2.2.2.2.2.2.2.1, x.1.2.2.2.2.2.2.2.2.1, x.1.2.2.2.2.2.2.2.2.2.1, ()), ())).bind fun r11 => (
            if ((decide (r10 = (0:Int))) ≠ (decide (r11 = true))) then
              some false
            else
              (g_capsule_Check ((x.1.1, x.1.2.1, x.1.2.2.1, x.1.2.2.2.1, x.1.2.2.2.2.1, x.1.2.2.2.2.2.1, x.1.2.2.2.2.2.2.1, x.1.2.2.2.2.2.2.2.1, x.1.2.2.2.2.2.2.2.2.1, x.1.2.2.2.2.2.2.2.2.2.1, ()), ())).bind fun r12 => (
              if (r12 ≠ r8.2) then
                some false
              else
                (g_capsule_Said ((x.1.1, x.1.2.1, x.1.2.2.1, x.1.2.2.2.1, x.1.2.2.2.2.1, x.1.2.2.2.2.2.1, x.1.2.2.2.2.2.2.1, x.1.2.2.2.2.2.2.2.1, x.1.2.2.2.2.2.2.2.2.1, x.1.2.2.2.2.2.2.2.2.2.1, ()), ())).bind fun r13 => (
                (g_ref23_Said ((x.1.1, x.1.2.1, x.1.2.2.1, x.1.2.2.2.1, x.1.2.2.2.2.1, x.1.2.2.2.2.2.1, x.1.2.2.2.2.2.2.1, x.1.2.2.2.2.2.2.2.1, x.1.2.2.2.2.2.2.2.2.1, x.1.2.2.2.2.2.2.2.2.2.1, ()), ())).bind fun r14 => (
                (g_ref01_Equal (r13, r14, ())).bind fun r15 => (
                if (r15 = true) then
                  (g_capsule_Words ((x.1.1, x.1.2.1, x.1.2.2.1, x.1.2.2.2.1, x.1.2.2.2.2.1, x.1.2.2.2.2.2.1, x.1.2.2.2.2.2.2.1, x.1.2.2.2.2.2.2.2.1, x.1.2.2.2.2.2.2.2.2.1, x.1.2.2.2.2.2.2.2.2.2.1, ()), ())).bind fun r16 => (
                  (g_ref23_Words ((x.1.1, x.1.2.1, x.1.2.2.1, x.1.2.2.2.1, x.1.2.2.2.2.1, x.1.2.2.2.2.2.1, x.1.2.2.2.2.2.2.1, x.1.2.2.2.2.2.2.2.1, x.1.2.2.2.2.2.2.2.2.1, x.1.2.2.2.2.2.2.2.2.2.1, ()), ())).bind fun r17 => (
                  (g_ref01_Equal (r16, r17, ())).bind fun r18 => (
                  if (r18 = true) then
                    (g_capsule_Same ((x.1.1, x.1.2.1, x.1.2.2.1, x.1.2.2.2.1, x.1.2.2.2.2.1, x.1.2.2.2.2.2.1, x.1.2.2.2.2.2.2.1, x.1.2.2.2.2.2.2.2.1, x.1.2.2.2.2.2.2.2.2.1, x.1.2.2.2.2.2.2.2.2.2.1, ()), (x.2.1.1, x.2.1.2.1, x.2.1.2.2.1, x.2.1.2.2.2.1, x.2.1.2.2.2.2.1, x.2.1.2.2.2.2.2.1, x.2.1.2.2.2.2.2.2.1, x.2.1.2.2.2.2.2.2.2.1, x.2.1.2.2.2.2.2.2.2.2.1, x.2.1.2.2.2.2.2.2.2.2.2.1, ()), ())).bind fun r19 => (
                    (g_ref23_Same ((x.1.1, x.1.2.1, x.1.2.2.1, x.1.2.2.2.1, x.1.2.2.2.2.1, x.1.2.2.2.2.2.1, x.1.2.2.2.2.2.2.1, x.1.2.2.2.2.2.2.2.1, x.1.2.2.2.2.2.2.2.2.1, x.1.2.2.2.2.2.2.2.2.2.1, ()), (x.2.1.1, x.2.1.2.1, x.2.1.2.2.1, x.2.1.2.2.2.1, x.2.1.2.2.2.2.1, x.2.1.2.2.2.2.2.1, x.2.1.2.2.2.2.2.2.1, x.2.1.2.2.2.2.2.2.2.1, x.2.1.2.2.2.2.2.2.2.2.1, x.2.1.2.2.2.2.2.2.2.2.2.1, ()), ())).bind fun r20 => (
                    if ((decide (r19 = true)) = (decide (r20 = true))) then
                      (g_capsule_Same ((x.1.1, x.1.2.1, x.1.2.2.1, x.1.2.2.2.1, x.1.2.2.2.2.1, x.1.2.2.2.2.2.1, x.1.2.2.2.2.2.2.1, x.1.2.2.2.2.2.2.2.1, x.1.2.2.2.2.2.2.2.2.1, x.1.2.2.2.2.2.2.2.2.2.1, ()), (x.1.1, x.1.2.1, x.1.2.2.1, x.1.2.2.2.1, x.1.2.2.2.2.1, x.1.2.2.2.2.2.1, x.1.2.2.2.2.2.2.1, x.1.2.2.2.2.2.2.2.1, x.1.2.2.2.2.2.2.2.2.1, x.1.2.2.2.2.2.2.2.2.2.1, ()), ())).bind fun r21 => (
                      some (decide (r21 = true)))
                    else
                      some false))
                  else
                    some false)))
                else
                  some false))))))))))))
theorem p_law23_CapsulePuts_eq (N : Nat) (x : Ds [.cat [.int .i64, .int .i64, .int .u32, .int .u32, .int .u64, .int .u64, .sl (.int .u8), .sl (.int .u8), .sl (.int .u8), .sl (.int .u8)], .cat [.int .i64, .int .i64, .int .u32, .int .u32, .int .u64, .int .u64, .sl (.int .u8), .sl (.int .u8), .sl (.int .u8), .sl (.int .u8)]]) : funL p_law23_CapsulePuts_E p_law23_CapsulePuts_H (LT.nil) N Go.Proofs.Try.f5 p_law23_CapsulePuts_c [.cat [.int .i64, .int .i64, .int .u32, .int .u32, .int .u64, .int .u64, .sl (.int .u8), .sl (.int .u8), .sl (.int .u8), .sl (.int .u8)], .cat [.int .i64, .int .i64, .int .u32, .int .u32, .int .u64, .int .u64, .sl (.int .u8), .sl (.int .u8), .sl (.int .u8), .sl (.int .u8)]] [.bool] x = p_law23_CapsulePuts N x := by kernel_rfl
theorem p_law23_CapsulePuts_Eok (he_law23_live : SigOk Go.Proofs.Try.prog 8 ⟨[], [.bool], g_law23_live⟩) (he_law23_big : SigOk Go.Proofs.Try.prog 14 ⟨[.cat [.int .i64, .int .i64, .int .u32, .int .u32, .int .u64, .int .u64, .sl (.int .u8), .sl (.int .u8), .sl (.int .u8), .sl (.int .u8)]], [.bool], g_law23_big⟩) (he_capsule_Put : SigOk Go.Proofs.Try.prog 18 ⟨[.cat [.int .i64, .int .i64, .int .u32, .int .u32, .int .u64, .int .u64, .sl (.int .u8), .sl (.int .u8), .sl (.int .u8), .sl (.int .u8)]], [.sl (.int .u8), .int .i64], g_capsule_Put⟩) (he_ref23_Put : SigOk Go.Proofs.Try.prog 19 ⟨[.cat [.int .i64, .int .i64, .int .u32, .int .u32, .int .u64, .int .u64, .sl (.int .u8), .sl (.int .u8), .sl (.int .u8), .sl (.int .u8)]], [.sl (.int .u8), .int .i64], g_ref23_Put⟩) (he_ref01_Equal : SigOk Go.Proofs.Try.prog 11 ⟨[.sl (.int .u8), .sl (.int .u8)], [.bool], g_ref01_Equal⟩) (he_capsule_Check : SigOk Go.Proofs.Try.prog 20 ⟨[.cat [.int .i64, .int .i64, .int .u32, .int .u32, .int .u64, .int .u64, .sl (.int .u8), .sl (.int .u8), .sl (.int .u8), .sl (.int .u8)]], [.int .i64], g_capsule_Check⟩) (he_ref23_May : SigOk Go.Proofs.Try.prog 15 ⟨[.cat [.int .i64, .int .i64, .int .u32, .int .u32, .int .u64, .int .u64, .sl (.int .u8), .sl (.int .u8), .sl (.int .u8), .sl (.int .u8)]], [.bool], g_ref23_May⟩) (he_capsule_Said : SigOk Go.Proofs.Try.prog 21 ⟨[.cat [.int .i64, .int .i64, .int .u32, .int .u32, .int .u64, .int .u64, .sl (.int .u8), .sl (.int .u8), .sl (.int .u8), .sl (.int .u8)]], [.sl (.int .u8)], g_capsule_Said⟩) (he_ref23_Said : SigOk Go.Proofs.Try.prog 22 ⟨[.cat [.int .i64, .int .i64, .int .u32, .int .u32, .int .u64, .int .u64, .sl (.int .u8), .sl (.int .u8), .sl (.int .u8), .sl (.int .u8)]], [.sl (.int .u8)], g_ref23_Said⟩) (he_capsule_Words : SigOk Go.Proofs.Try.prog 16 ⟨[.cat [.int .i64, .int .i64, .int .u32, .int .u32, .int .u64, .int .u64, .sl (.int .u8), .sl (.int .u8), .sl (.int .u8), .sl (.int .u8)]], [.sl (.int .u8)], g_capsule_Words⟩) (he_ref23_Words : SigOk Go.Proofs.Try.prog 23 ⟨[.cat [.int .i64, .int .i64, .int .u32, .int .u32, .int .u64, .int .u64, .sl (.int .u8), .sl (.int .u8), .sl (.int .u8), .sl (.int .u8)]], [.sl (.int .u8)], g_ref23_Words⟩) (he_capsule_Same : SigOk Go.Proofs.Try.prog 17 ⟨[.cat [.int .i64, .int .i64, .int .u32, .int .u32, .int .u64, .int .u64, .sl (.int .u8), .sl (.int .u8), .sl (.int .u8), .sl (.int .u8)], .cat [.int .i64, .int .i64, .int .u32, .int .u32, .int .u64, .int .u64, .sl (.int .u8), .sl (.int .u8), .sl (.int .u8), .sl (.int .u8)]], [.bool], g_capsule_Same⟩) (he_ref23_Same : SigOk Go.Proofs.Try.prog 24 ⟨[.cat [.int .i64, .int .i64, .int .u32, .int .u32, .int .u64, .int .u64, .sl (.int .u8), .sl (.int .u8), .sl (.int .u8), .sl (.int .u8)], .cat [.int .i64, .int .i64, .int .u32, .int .u32, .int .u64, .int .u64, .sl (.int .u8), .sl (.int .u8), .sl (.int .u8), .sl (.int .u8)]], [.bool], g_ref23_Same⟩) : p_law23_CapsulePuts_E.Ok Go.Proofs.Try.prog := AE.ofQ_ok (all_cons ty4_ok (all_cons ty37_ok all_nil)) (all_cons ⟨he_law23_live, enters_law23_live⟩ (all_cons ⟨he_law23_big, enters_law23_big⟩ (all_cons ⟨he_capsule_Put, enters_capsule_Put⟩ (all_cons ⟨he_ref23_Put, enters_ref23_Put⟩ (all_cons ⟨he_ref01_Equal, enters_ref01_Equal⟩ (all_cons ⟨he_capsule_Check, enters_capsule_Check⟩ (all_cons ⟨he_ref23_May, enters_ref23_May⟩ (all_cons ⟨he_capsule_Said, enters_capsule_Said⟩ (all_cons ⟨he_ref23_Said, enters_ref23_Said⟩ (all_cons ⟨he_capsule_Words, enters_capsule_Words⟩ (all_cons ⟨he_ref23_Words, enters_ref23_Words⟩ (all_cons ⟨he_capsule_Same, enters_capsule_Same⟩ (all_cons ⟨he_ref23_Same, enters_ref23_Same⟩ all_nil))))))))))))) (all_cons steq35_ok all_nil)
theorem p_law23_CapsulePuts_ok (he_law23_live : SigOk Go.Proofs.Try.prog 8 ⟨[], [.bool], g_law23_live⟩) (he_law23_big : SigOk Go.Proofs.Try.prog 14 ⟨[.cat [.int .i64, .int .i64, .int .u32, .int .u32, .int .u64, .int .u64, .sl (.int .u8), .sl (.int .u8), .sl (.int .u8), .sl (.int .u8)]], [.bool], g_law23_big⟩) (he_capsule_Put : SigOk Go.Proofs.Try.prog 18 ⟨[.cat [.int .i64, .int .i64, .int .u32, .int .u32, .int .u64, .int .u64, .sl (.int .u8), .sl (.int .u8), .sl (.int .u8), .sl (.int .u8)]], [.sl (.int .u8), .int .i64], g_capsule_Put⟩) (he_ref23_Put : SigOk Go.Proofs.Try.prog 19 ⟨[.cat [.int .i64, .int .i64, .int .u32, .int .u32, .int .u64, .int .u64, .sl (.int .u8), .sl (.int .u8), .sl (.int .u8), .sl (.int .u8)]], [.sl (.int .u8), .int .i64], g_ref23_Put⟩) (he_ref01_Equal : SigOk Go.Proofs.Try.prog 11 ⟨[.sl (.int .u8), .sl (.int .u8)], [.bool], g_ref01_Equal⟩) (he_capsule_Check : SigOk Go.Proofs.Try.prog 20 ⟨[.cat [.int .i64, .int .i64, .int .u32, .int .u32, .int .u64, .int .u64, .sl (.int .u8), .sl (.int .u8), .sl (.int .u8), .sl (.int .u8)]], [.int .i64], g_capsule_Check⟩) (he_ref23_May : SigOk Go.Proofs.Try.prog 15 ⟨[.cat [.int .i64, .int .i64, .int .u32, .int .u32, .int .u64, .int .u64, .sl (.int .u8), .sl (.int .u8), .sl (.int .u8), .sl (.int .u8)]], [.bool], g_ref23_May⟩) (he_capsule_Said : SigOk Go.Proofs.Try.prog 21 ⟨[.cat [.int .i64, .int .i64, .int .u32, .int .u32, .int .u64, .int .u64, .sl (.int .u8), .sl (.int .u8), .sl (.int .u8), .sl (.int .u8)]], [.sl (.int .u8)], g_capsule_Said⟩) (he_ref23_Said : SigOk Go.Proofs.Try.prog 22 ⟨[.cat [.int .i64, .int .i64, .int .u32, .int .u32, .int .u64, .int .u64, .sl (.int .u8), .sl (.int .u8), .sl (.int .u8), .sl (.int .u8)]], [.sl (.int .u8)], g_ref23_Said⟩) (he_capsule_Words : SigOk Go.Proofs.Try.prog 16 ⟨[.cat [.int .i64, .int .i64, .int .u32, .int .u32, .int .u64, .int .u64, .sl (.int .u8), .sl (.int .u8), .sl (.int .u8), .sl (.int .u8)]], [.sl (.int .u8)], g_capsule_Words⟩) (he_ref23_Words : SigOk Go.Proofs.Try.prog 23 ⟨[.cat [.int .i64, .int .i64, .int .u32, .int .u32, .int .u64, .int .u64, .sl (.int .u8), .sl (.int .u8), .sl (.int .u8), .sl (.int .u8)]], [.sl (.int .u8)], g_ref23_Words⟩) (he_capsule_Same : SigOk Go.Proofs.Try.prog 17 ⟨[.cat [.int .i64, .int .i64, .int .u32, .int .u32, .int .u64, .int .u64, .sl (.int .u8), .sl (.int .u8), .sl (.int .u8), .sl (.int .u8)], .cat [.int .i64, .int .i64, .int .u32, .int .u32, .int .u64, .int .u64, .sl (.int .u8), .sl (.int .u8), .sl (.int .u8), .sl (.int .u8)]], [.bool], g_capsule_Same⟩) (he_ref23_Same : SigOk Go.Proofs.Try.prog 24 ⟨[.cat [.int .i64, .int .i64, .int .u32, .int .u32, .int .u64, .int .u64, .sl (.int .u8), .sl (.int .u8), .sl (.int .u8), .sl (.int .u8)], .cat [.int .i64, .int .i64, .int .u32, .int .u32, .int .u64, .int .u64, .sl (.int .u8), .sl (.int .u8), .sl (.int .u8), .sl (.int .u8)]], [.bool], g_ref23_Same⟩) {g : Ds [.cat [.int .i64, .int .i64, .int .u32, .int .u32, .int .u64, .int .u64, .sl (.int .u8), .sl (.int .u8), .sl (.int .u8), .sl (.int .u8)], .cat [.int .i64, .int .i64, .int .u32, .int .u32, .int .u64, .int .u64, .sl (.int .u8), .sl (.int .u8), .sl (.int .u8), .sl (.int .u8)]] → Option (Rs [.bool])} (hg : ∀ x r, g x = some r → ∃ N, p_law23_CapsulePuts N x = some r) : SigOk Go.Proofs.Try.prog 5 ⟨[.cat [.int .i64, .int .i64, .int .u32, .int .u32, .int .u64, .int .u64, .sl (.int .u8), .sl (.int .u8), .sl (.int .u8), .sl (.int .u8)], .cat [.int .i64, .int .i64, .int .u32, .int .u32, .int .u64, .int .u64, .sl (.int .u8), .sl (.int .u8), .sl (.int .u8), .sl (.int .u8)]], [.bool], g⟩ :=
  fun_of (E := p_law23_CapsulePuts_E) (H := p_law23_CapsulePuts_H) (L := fun N => LT.nil) (c := p_law23_CapsulePuts_c) (ks := p_law23_CapsulePuts_ks) (rs := p_law23_CapsulePuts_rs) (F := p_law23_CapsulePuts) (p_law23_CapsulePuts_Eok he_law23_live he_law23_big he_capsule_Put he_ref23_Put he_ref01_Equal he_capsule_Check he_ref23_May he_capsule_Said he_ref23_Said he_capsule_Words he_ref23_Words he_capsule_Same he_ref23_Same) mix Go.Proofs.Try.func5 (by kernel_rfl) (fun N => OkAll.nil) p_law23_CapsulePuts_eq hg

/-! livery/liverylaw23.CapsuleApart -/
noncomputable def p_law23_CapsuleApart_E : AE := AE.ofQ [(4, ty4), (22, ty22), (37, ty37)] [(8, ⟨[], [.bool], g_law23_live⟩), (14, ⟨[.cat [.int .i64, .int .i64, .int .u32, .int .u32, .int .u64, .int .u64, .sl (.int .u8), .sl (.int .u8), .sl (.int .u8), .sl (.int .u8)]], [.bool], g_law23_big⟩), (15, ⟨[.cat [.int .i64, .int .i64, .int .u32, .int .u32, .int .u64, .int .u64, .sl (.int .u8), .sl (.int .u8), .sl (.int .u8), .sl (.int .u8)]], [.bool], g_ref23_May⟩), (16, ⟨[.cat [.int .i64, .int .i64, .int .u32, .int .u32, .int .u64, .int .u64, .sl (.int .u8), .sl (.int .u8), .sl (.int .u8), .sl (.int .u8)]], [.sl (.int .u8)], g_capsule_Words⟩), (11, ⟨[.sl (.int .u8), .sl (.int .u8)], [.bool], g_ref01_Equal⟩), (17, ⟨[.cat [.int .i64, .int .i64, .int .u32, .int .u32, .int .u64, .int .u64, .sl (.int .u8), .sl (.int .u8), .sl (.int .u8), .sl (.int .u8)], .cat [.int .i64, .int .i64, .int .u32, .int .u32, .int .u64, .int .u64, .sl (.int .u8), .sl (.int .u8), .sl (.int .u8), .sl (.int .u8)]], [.bool], g_capsule_Same⟩)] [(35, .u64, 2)]
noncomputable def p_law23_CapsuleApart_H : Hints := [(3000000, [4])]
noncomputable def p_law23_CapsuleApart_c : Code := (Go.Proofs.Try.f4).body.getD .skip
abbrev p_law23_CapsuleApart_ks : List Kd := [.cat [.int .i64, .int .i64, .int .u32, .int .u32, .int .u64, .int .u64, .sl (.int .u8), .sl (.int .u8), .sl (.int .u8), .sl (.int .u8)], .cat [.int .i64, .int .i64, .int .u32, .int .u32, .int .u64, .int .u64, .sl (.int .u8), .sl (.int .u8), .sl (.int .u8), .sl (.int .u8)]]
abbrev p_law23_CapsuleApart_rs : List Kd := [.bool]
noncomputable def p_law23_CapsuleApart (N : Nat) (x : (Int × Int × Int × Int × Int × Int × List Int × List Int × List Int × List Int × Unit) × (Int × Int × Int × Int × Int × Int × List Int × List Int × List Int × List Int × Unit) × Unit) : Option (Bool) :=
  (g_law23_live (())).bind fun r1 => (
  if (¬ (r1 = true)) then
    (g_law23_live (())).bind fun r2 => (
    some (decide (r2 = true)))
  else
    (g_law23_big ((x.1.1, x.1.2.1, x.1.2.2.1, x.1.2.2.2.1, x.1.2.2.2.2.1, x.1.2.2.2.2.2.1, x.1.2.2.2.2.2.2.1, x.1.2.2.2.2.2.2.2.1, x.1.2.2.2.2.2.2.2.2.1, x.1.2.2.2.2.2.2.2.2.2.1, ()), ())).bind fun r3 => (
    if (r3 = true) then
      (g_law23_live (())).bind fun r4 => (
      some (decide (r4 = true)))
    else
      (g_law23_big ((x.2.1.1, x.2.1.2.1, x.2.1.2.2.1, x.2.1.2.2.2.1, x.2.1.2.2.2.2.1, x.2.1.2.2.2.2.2.1, x.2.1.2.2.2.2.2.2.1, x.2.1.2.2.2.2.2.2.2.1, x.2.1.2.2.2.2.2.2.2.2.1, x.2.1.2.2.2.2.2.2.2.2.2.1, ()), ())).bind fun r5 => (
      if (r5 = true) then
        (g_law23_live (())).bind fun r6 => (
        some (decide (r6 = true)))
      else
        (g_ref23_May ((x.1.1, x.1.2.1, x.1.2.2.1, x.1.2.2.2.1, x.1.2.2.2.2.1, x.1.2.2.2.2.2.1, x.1.2.2.2.2.2.2.1, x.1.2.2.2.2.2.2.2.1, x.1.2.2.2.2.2.2.2.2.1, x.1.2.2.2.2.2.2.2.2.2.1, ()), ())).bind fun r7 => (
        if (¬ (r7 = true)) then
          (g_law23_live (())).bind fun r8 => (
          some (decide (r8 = true)))
        else
          (g_ref23_May ((x.2.1.1, x.2.1.2.1, x.2.1.2.2.1, x.2.1.2.2.2.1, x.2.1.2.2.2.2.1, x.2.1.2.2.2.2.2.1, x.2.1.2.2.2.2.2.2.1, x.2.1.2.2.2.2.2.2.2.1, x.2.1.2.2.2.2.2.2.2.2.1, x.2.1.2.2.2.2.2.2.2.2.2.1, ()), ())).bind fun r9 => (
          if (¬ (r9 = true)) then
            (g_law23_live (())).bind fun r10 => (
            some (decide (r10 = true)))
          else
            (g_capsule_Words ((x.1.1, x.1.2.1, x.1.2.2.1, x.1.2.2.2.1, x.1.2.2.2.2.1, x.1.2.2.2.2.2.1, x.1.2.2.2.2.2.2.1, x.1.2.2.2.2.2.2.2.1, x.1.2.2.2.2.2.2.2.2.1, x.1.2.2.2.2.2.2.2.2.2.1, ()), ())).bind fun r11 => (
            (g_capsule_Words ((x.2.1.1, x.2.1.2.1, x.2.1.2.2.1, x.2.1.2.2.2.1, x.2.1.2.2.2.2.1, x.2.1.2.2.2.2.2.1, x.2.1.2.2.2.2.2.2.1, x.2.1.2.2.2.2.2.2.2.1, x.2.1.2.2.2.2.2.2.2.2.1, x.2.1.2.2.2.2.2.2.2.2.2.1, ()), ())).bind fun r12 => (
            if ((((List.length r11) : Nat) : Int) > (0:Int)) then
              (g_ref01_Equal (r11, r12, ())).bind fun r13 => (
              if (r13 = true) then
                (g_ref01_Equal (x.1.2.2.2.2.2.2.2.2.2.1, x.2.1.2.2.2.2.2.2.2.2.2.1, ())).bind fun r14 => (
                (g_capsule_Same ((x.1.1, x.1.2.1, x.1.2.2.1, x.1.2.2.2.1, x.1.2.2.2.2.1, x.1.2.2.2.2.2.1, x.1.2.2.2.2.2.2.1, x.1.2.2.2.2.2.2.2.1, x.1.2.2.2.2.2.2.2.2.1, x.1.2.2.2.2.2.2.2.2.2.1, ()), (x.2.1.1, x.2.1.2.1, x.2.1.2.2.1, x.2.1.2.2.2.1, x.2.1.2.2.2.2.1, x.2.1.2.2.2.2.2.1, x.2.1.2.2.2.2.2.2.1, x.2.1.2.2.2.2.2.2.2.1, x.2.1.2.2.2.2.2.2.2.2.1, x.2.1.2.2.2.2.2.2.2.2.2.1, ()), ())).bind fun r15 => (
                some (decide ((decide (r14 = true)) = (decide (r15 = true))))))
              else
                (g_capsule_Same ((x.1.1, x.1.2.1, x.1.2.2.1, x.1.2.2.2.1, x.1.2.2.2.2.1, x.1.2.2.2.2.2.1, x.1.2.2.2.2.2.2.1, x.1.2.2.2.2.2.2.2.1, x.1.2.2.2.2.2.2.2.2.1, x.1.2.2.2.2.2.2.2.2.2.1, ()), (x.2.1.1, x.2.1.2.1, x.2.1.2.2.1, x.2.1.2.2.2.1, x.2.1.2.2.2.2.1, x.2.1.2.2.2.2.2.1, x.2.1.2.2.2.2.2.2.1, x.2.1.2.2.2.2.2.2.2.1, x.2.1.2.2.2.2.2.2.2.2.1, x.2.1.2.2.2.2.2.2.2.2.2.1, ()), ())).bind fun r16 => (
                some (decide ((decide (false = true)) = (decide (r16 = true))))))
            else
              some false)))))))
theorem p_law23_CapsuleApart_eq (N : Nat) (x : Ds [.cat [.int .i64, .int .i64, .int .u32, .int .u32, .int .u64, .int .u64, .sl (.int .u8), .sl (.int .u8), .sl (.int .u8), .sl (.int .u8)], .cat [.int .i64, .int .i64, .int .u32, .int .u32, .int .u64, .int .u64, .sl (.int .u8), .sl (.int .u8), .sl (.int .u8), .sl (.int .u8)]]) : funL p_law23_CapsuleApart_E p_law23_CapsuleApart_H (LT.nil) N Go.Proofs.Try.f4 p_law23_CapsuleApart_c [.cat [.int .i64, .int .i64, .int .u32, .int .u32, .int .u64, .int .u64, .sl (.int .u8), .sl (.int .u8), .sl (.int .u8), .sl (.int .u8)], .cat [.int .i64, .int .i64, .int .u32, .int .u32, .int .u64, .int .u64, .sl (.int .u8), .sl (.int .u8), .sl (.int .u8), .sl (.int .u8)]] [.bool] x = p_law23_CapsuleApart N x := by kernel_rfl
theorem p_law23_CapsuleApart_Eok (he_law23_live : SigOk Go.Proofs.Try.prog 8 ⟨[], [.bool], g_law23_live⟩) (he_law23_big : SigOk Go.Proofs.Try.prog 14 ⟨[.cat [.int .i64, .int .i64, .int .u32, .int .u32, .int .u64, .int .u64, .sl (.int .u8), .sl (.int .u8), .sl (.int .u8), .sl (.int .u8)]], [.bool], g_law23_big⟩) (he_ref23_May : SigOk Go.Proofs.Try.prog 15 ⟨[.cat [.int .i64, .int .i64, .int .u32, .int .u32, .int .u64, .int .u64, .sl (.int .u8), .sl (.int .u8), .sl (.int .u8), .sl (.int .u8)]], [.bool], g_ref23_May⟩) (he_capsule_Words : SigOk Go.Proofs.Try.prog 16 ⟨[.cat [.int .i64, .int .i64, .int .u32, .int .u32, .int .u64, .int .u64, .sl (.int .u8), .sl (.int .u8), .sl (.int .u8), .sl (.int .u8)]], [.sl (.int .u8)], g_capsule_Words⟩) (he_ref01_Equal : SigOk Go.Proofs.Try.prog 11 ⟨[.sl (.int .u8), .sl (.int .u8)], [.bool], g_ref01_Equal⟩) (he_capsule_Same : SigOk Go.Proofs.Try.prog 17 ⟨[.cat [.int .i64, .int .i64, .int .u32, .int .u32, .int .u64, .int .u64, .sl (.int .u8), .sl (.int .u8), .sl (.int .u8), .sl (.int .u8)], .cat [.int .i64, .int .i64, .int .u32, .int .u32, .int .u64, .int .u64, .sl (.int .u8), .sl (.int .u8), .sl (.int .u8), .sl (.int .u8)]], [.bool], g_capsule_Same⟩) : p_law23_CapsuleApart_E.Ok Go.Proofs.Try.prog := AE.ofQ_ok (all_cons ty4_ok (all_cons ty22_ok (all_cons ty37_ok all_nil))) (all_cons ⟨he_law23_live, enters_law23_live⟩ (all_cons ⟨he_law23_big, enters_law23_big⟩ (all_cons ⟨he_ref23_May, enters_ref23_May⟩ (all_cons ⟨he_capsule_Words, enters_capsule_Words⟩ (all_cons ⟨he_ref01_Equal, enters_ref01_Equal⟩ (all_cons ⟨he_capsule_Same, enters_capsule_Same⟩ all_nil)))))) (all_cons steq35_ok all_nil)
theorem p_law23_CapsuleApart_ok (he_law23_live : SigOk Go.Proofs.Try.prog 8 ⟨[], [.bool], g_law23_live⟩) (he_law23_big : SigOk Go.Proofs.Try.prog 14 ⟨[.cat [.int .i64, .int .i64, .int .u32, .int .u32, .int .u64, .int .u64, .sl (.int .u8), .sl (.int .u8), .sl (.int .u8), .sl (.int .u8)]], [.bool], g_law23_big⟩) (he_ref23_May : SigOk Go.Proofs.Try.prog 15 ⟨[.cat [.int .i64, .int .i64, .int .u32, .int .u32, .int .u64, .int .u64, .sl (.int .u8), .sl (.int .u8), .sl (.int .u8), .sl (.int .u8)]], [.bool], g_ref23_May⟩) (he_capsule_Words : SigOk Go.Proofs.Try.prog 16 ⟨[.cat [.int .i64, .int .i64, .int .u32, .int .u32, .int .u64, .int .u64, .sl (.int .u8), .sl (.int .u8), .sl (.int .u8), .sl (.int .u8)]], [.sl (.int .u8)], g_capsule_Words⟩) (he_ref01_Equal : SigOk Go.Proofs.Try.prog 11 ⟨[.sl (.int .u8), .sl (.int .u8)], [.bool], g_ref01_Equal⟩) (he_capsule_Same : SigOk Go.Proofs.Try.prog 17 ⟨[.cat [.int .i64, .int .i64, .int .u32, .int .u32, .int .u64, .int .u64, .sl (.int .u8), .sl (.int .u8), .sl (.int .u8), .sl (.int .u8)], .cat [.int .i64, .int .i64, .int .u32, .int .u32, .int .u64, .int .u64, .sl (.int .u8), .sl (.int .u8), .sl (.int .u8), .sl (.int .u8)]], [.bool], g_capsule_Same⟩) {g : Ds [.cat [.int .i64, .int .i64, .int .u32, .int .u32, .int .u64, .int .u64, .sl (.int .u8), .sl (.int .u8), .sl (.int .u8), .sl (.int .u8)], .cat [.int .i64, .int .i64, .int .u32, .int .u32, .int .u64, .int .u64, .sl (.int .u8), .sl (.int .u8), .sl (.int .u8), .sl (.int .u8)]] → Option (Rs [.bool])} (hg : ∀ x r, g x = some r → ∃ N, p_law23_CapsuleApart N x = some r) : SigOk Go.Proofs.Try.prog 4 ⟨[.cat [.int .i64, .int .i64, .int .u32, .int .u32, .int .u64, .int .u64, .sl (.int .u8), .sl (.int .u8), .sl (.int .u8), .sl (.int .u8)], .cat [.int .i64, .int .i64, .int .u32, .int .u32, .int .u64, .int .u64, .sl (.int .u8), .sl (.int .u8), .sl (.int .u8), .sl (.int .u8)]], [.bool], g⟩ :=
  fun_of (E := p_law23_CapsuleApart_E) (H := p_law23_CapsuleApart_H) (L := fun N => LT.nil) (c := p_law23_CapsuleApart_c) (ks := p_law23_CapsuleApart_ks) (rs := p_law23_CapsuleApart_rs) (F := p_law23_CapsuleApart) (p_law23_CapsuleApart_Eok he_law23_live he_law23_big he_ref23_May he_capsule_Words he_ref01_Equal he_capsule_Same) mix Go.Proofs.Try.func4 (by kernel_rfl) (fun N => OkAll.nil) p_law23_CapsuleApart_eq hg
end Go.Ax.TryP
/-! ### Capsules as bytes: proofs -/
set_option linter.unusedVariables false
namespace Go.Ax.TryP
theorem sameS_iff {c d : Cp} : sameS c d = true ↔ c = d := by
  obtain ⟨a1, a2, a3, a4, a5, a6, a7, a8, a9, a10, ⟨⟩⟩ := c
  obtain ⟨b1, b2, b3, b4, b5, b6, b7, b8, b9, b10, ⟨⟩⟩ := d
  simp only [sameS, Bool.and_eq_true, decide_eq_true_eq, Prod.mk.injEq, and_true, and_assoc]
/-- The number of bytes, the highest first. -/
def numS (b : List Int) : Int := b.foldl (fun a z => a * 256 + z) 0
theorem bigS_succ (n : Int) (w : Nat) : bigS n (w + 1) = bigS (n / 256) w ++ [n % 256] := by
  unfold bigS
  rw [List.range_succ, List.map_append]
  congr 1
  · refine List.map_congr_left fun i hi => ?_
    rw [List.mem_range] at hi
    have e : 8 * (w + 1 - 1 - i) = 8 + 8 * (w - 1 - i) := by omega
    rw [e, Int.pow_add, show (2 : Int) ^ 8 = 256 by decide, Int.ediv_ediv_of_nonneg (by decide)]
  · simp
theorem numS_append (a b : List Int) : numS (a ++ b) = b.foldl (fun a z => a * 256 + z) (numS a) := by unfold numS; rw [List.foldl_append]
theorem numS_bigS : ∀ (w : Nat) (n : Int), 0 ≤ n → n < 256 ^ w → numS (bigS n w) = n
  | 0, n, h0, h1 => by
    have : n = 0 := by simp at h1; omega
    subst this; rfl
  | w + 1, n, h0, h1 => by
    have h2 : n / 256 < 256 ^ w := by
      rw [Int.pow_succ] at h1
      exact Int.ediv_lt_of_lt_mul (by decide) h1
    rw [bigS_succ, numS_append, numS_bigS w (n / 256) (by omega) h2]
    simp only [List.foldl_cons, List.foldl_nil]
    omega
theorem bigS_inj {w : Nat} {n m : Int} (hn : 0 ≤ n ∧ n < 256 ^ w) (hm : 0 ≤ m ∧ m < 256 ^ w) (h : bigS n w = bigS m w) : n = m := by
  rw [← numS_bigS w n hn.1 hn.2, h, numS_bigS w m hm.1 hm.2]
theorem xor_zero {a b : Int} (ha : 0 ≤ a ∧ a ≤ 255) (hb : 0 ≤ b ∧ b ≤ 255) {x : Int} (hx : 0 ≤ x ∧ x ≤ 255) :
    (0 ≤ ior .u8 x (ixor .u8 a b) ∧ ior .u8 x (ixor .u8 a b) ≤ 255) ∧ (ior .u8 x (ixor .u8 a b) = 0 ↔ x = 0 ∧ a = b) := by
  obtain ⟨a, rfl⟩ : ∃ m : Nat, a = m := ⟨a.toNat, by omega⟩
  obtain ⟨b, rfl⟩ : ∃ m : Nat, b = m := ⟨b.toNat, by omega⟩
  obtain ⟨x, rfl⟩ : ∃ m : Nat, x = m := ⟨x.toNat, by omega⟩
  have ha' : a < 2 ^ 8 := by omega
  have hb' : b < 2 ^ 8 := by omega
  have hx' : x < 2 ^ 8 := by omega
  have h1 : a ^^^ b < 2 ^ 8 := Nat.xor_lt_two_pow ha' hb'
  have h2 : x ||| (a ^^^ b) < 2 ^ 8 := Nat.or_lt_two_pow hx' h1
  rw [ixor_nat (k := .u8) rfl ha' hb', ior_nat (k := .u8) rfl hx' h1]
  refine ⟨by omega, ?_⟩
  constructor
  · intro h
    have h : x ||| (a ^^^ b) = 0 := by omega
    have hz : ∀ i, (x ||| (a ^^^ b)).testBit i = false := fun i => by rw [h]; exact Nat.zero_testBit i
    have hx0 : x = 0 := Nat.eq_of_testBit_eq fun i => by
      have := hz i
      rw [Nat.testBit_or, Bool.or_eq_false_iff] at this
      rw [this.1]; simp
    have hab : a = b := Nat.eq_of_testBit_eq fun i => by
      have := hz i
      rw [Nat.testBit_or, Bool.or_eq_false_iff, Nat.testBit_xor] at this
      have := this.2
      cases h1 : a.testBit i <;> cases h2 : b.testBit i <;> simp_all
    rw [hx0, hab]; simp
  · rintro ⟨k1, k2⟩
    have k1 : x = 0 := by omega
    have k2 : a = b := by omega
    rw [k1, k2]
    simp
def accS (a b : List Int) : Nat → Int
  | 0 => 0
  | i + 1 => ior .u8 (accS a b i) (ixor .u8 (a.getD i 0) (b.getD i 0))
theorem byte_at {a : List Int} (h : bytes a) (i : Nat) : 0 ≤ a.getD i 0 ∧ a.getD i 0 ≤ 255 := by
  rw [List.getD_eq_getElem?_getD]
  cases e : a[i]? with
  | none => simp
  | some z => exact h z (List.mem_of_getElem? e)
theorem accS_spec {a b : List Int} (ha : bytes a) (hb : bytes b) (hl : a.length = b.length) : ∀ i, i ≤ a.length → (0 ≤ accS a b i ∧ accS a b i ≤ 255) ∧ (accS a b i = 0 ↔ a.take i = b.take i)
  | 0, _ => by simp [accS]
  | i + 1, hi => by
    obtain ⟨h1, h2⟩ := accS_spec ha hb hl i (by omega)
    obtain ⟨g1, g2⟩ := xor_zero (byte_at ha i) (byte_at hb i) h1
    refine ⟨g1, g2.trans ?_⟩
    rw [h2, List.take_succ_eq_append_getElem (show i < a.length by omega), List.take_succ_eq_append_getElem (show i < b.length by omega)]
    have e : List.take i a ++ [a[i]] = List.take i b ++ [b[i]] ↔ List.take i a = List.take i b ∧ a[i] = b[i] :=
      ⟨fun h => by obtain ⟨p, q⟩ := List.append_inj h (by simp; omega); exact ⟨p, by simpa using q⟩, fun h => by rw [h.1, h.2]⟩
    rw [e]
    simp [List.getD_eq_getElem?_getD, List.getElem?_eq_getElem (show i < a.length by omega), List.getElem?_eq_getElem (show i < b.length by omega)]
theorem q_octet_Same : ∀ x r, g_octet_Same x = some r → ∃ N, p_octet_Same N x = some r := by
  refine Spec_of (ks := p_octet_Same_ks) (rs := p_octet_Same_rs) fun x hw hq => ?_
  obtain ⟨(a : List Int), (b : List Int), u⟩ := x
  obtain ⟨ha1, ha2⟩ : a.length ≤ maxLen ∧ bytes a := wf_b1.1 hw.1
  obtain ⟨hb1, hb2⟩ : b.length ≤ maxLen ∧ bytes b := wf_b1.1 hw.2.1
  have hM : maxLen = 9223372036854775807 := by decide
  refine ⟨a.length + 1, ?_⟩
  unfold p_octet_Same
  dsimp only
  by_cases hl : a.length = b.length
  · rw [if_neg (by omega)]
    refine (iter_from (F := p_octet_Same_l5_F (a.length + 1)) (s := fun i => (a.length, b.length, accS a b i, (a.length : Int), (i : Int), a.length, a, b.length, b, ())) (y := (accS a b a.length, ())) a.length rfl ?_ ?_ (a.length + 1) (by omega)).trans ?_
    · intro i hi kn
      unfold p_octet_Same_l5_F
      dsimp only
      rw [if_pos (by omega), if_pos (by omega), if_pos (by omega), Int.toNat_natCast, if_pos (by omega), if_pos (by omega), if_pos (by omega), if_pos (by omega), wrap_i64 (by omega) (by omega)]
      rfl
    · intro kn
      unfold p_octet_Same_l5_F
      dsimp only
      rw [if_neg (by omega)]
    · dsimp only
      refine congrArg some (decide_eq_decide.2 ?_)
      rw [(accS_spec ha2 hb2 hl a.length (Nat.le_refl _)).2, List.take_length, hl, List.take_length]
  · rw [if_pos (by omega)]
    exact congrArg some (decide_eq_false (fun h => hl (by rw [show a = b from h]))).symm
theorem at_Same {a b : List Int} (ha : a.length ≤ maxLen ∧ bytes a) (hb : b.length ≤ maxLen ∧ bytes b) : g_octet_Same (a, b, ()) = some (decide (a = b)) :=
  Spec_at (ks := p_octet_Same_ks) (rs := p_octet_Same_rs) (x := (a, b, ())) ⟨wf_b1.2 ha, wf_b1.2 hb, trivial⟩ trivial
theorem at_Equal2 {a b : List Int} (ha : a.length ≤ maxLen ∧ bytes a) (hb : b.length ≤ maxLen ∧ bytes b) : g_ref01_Equal (a, b, ()) = some (decide (a = b)) :=
  Spec_at (ks := p_ref01_Equal_ks) (rs := p_ref01_Equal_rs) (x := (a, b, ())) ⟨wf_b1.2 ha, wf_b1.2 hb, trivial⟩ trivial
theorem q_law23_big : ∀ x r, g_law23_big x = some r → ∃ N, p_law23_big N x = some r := by
  refine Spec_of (ks := p_law23_big_ks) (rs := p_law23_big_rs) fun x hw hq => ⟨0, ?_⟩
  obtain ⟨(c : Cp), u⟩ := x
  show p_law23_big 0 (c, u) = some (bigB c)
  unfold p_law23_big bigB
  dsimp only
  by_cases h1 : ((c.2.2.2.2.2.2.1.length : Nat) : Int) > 9000
  · rw [if_pos h1, decide_eq_true (show 9000 < c.2.2.2.2.2.2.1.length by omega)]; rfl
  rw [if_neg h1, decide_eq_false (show ¬ 9000 < c.2.2.2.2.2.2.1.length by omega)]
  by_cases h2 : ((c.2.2.2.2.2.2.2.1.length : Nat) : Int) > 9000
  · rw [if_pos h2, decide_eq_true (show 9000 < c.2.2.2.2.2.2.2.1.length by omega)]; rfl
  rw [if_neg h2, decide_eq_false (show ¬ 9000 < c.2.2.2.2.2.2.2.1.length by omega)]
  by_cases h3 : ((c.2.2.2.2.2.2.2.2.1.length : Nat) : Int) > 9000
  · rw [if_pos h3, decide_eq_true (show 9000 < c.2.2.2.2.2.2.2.2.1.length by omega)]; rfl
  rw [if_neg h3, decide_eq_false (show ¬ 9000 < c.2.2.2.2.2.2.2.2.1.length by omega)]
  simp only [Bool.false_or]
  exact congrArg some (decide_eq_decide.2 (by omega))
theorem at_bigB {c : Cp} (h : cpOk c) : g_law23_big (c, ()) = some (bigB c) :=
  Spec_at (ks := p_law23_big_ks) (rs := p_law23_big_rs) (x := (c, ())) ⟨wf_cp.2 h, trivial⟩ trivial
theorem q_ref19_One : ∀ x r, g_ref19_One x = some r → ∃ N, p_ref19_One N x = some r := by
  refine Spec_of (ks := p_ref19_One_ks) (rs := p_ref19_One_rs) fun x hw hq => ⟨0, ?_⟩
  obtain ⟨⟨(lo : Int), (hi : Int), v⟩, u⟩ := x
  show p_ref19_One 0 ((lo, hi, v), u) = some (oneS lo hi)
  unfold p_ref19_One oneS
  dsimp only
  by_cases h1 : lo < hi
  · rw [if_pos h1]
    exact congrArg some (decide_eq_decide.2 (by omega))
  · rw [if_neg h1]
    exact congrArg some (decide_eq_false (by omega)).symm
theorem at_One {lo hi : Int} (h1 : 0 ≤ lo ∧ lo ≤ 18446744073709551615) (h2 : 0 ≤ hi ∧ hi ≤ 18446744073709551615) : g_ref19_One ((lo, hi, ()), ()) = some (oneS lo hi) :=
  Spec_at (ks := p_ref19_One_ks) (rs := p_ref19_One_rs) (x := ((lo, hi, ()), ())) ⟨⟨okInt_u64'.2 h1, okInt_u64'.2 h2, trivial⟩, trivial⟩ trivial
theorem q_ref23_spoken : ∀ x r, g_ref23_spoken x = some r → ∃ N, p_ref23_spoken N x = some r := by
  refine Spec_of (ks := p_ref23_spoken_ks) (rs := p_ref23_spoken_rs) fun x hw hq => ⟨0, ?_⟩
  obtain ⟨(c : Cp), u⟩ := x
  have hc : cpOk c := wf_cp.1 hw.1
  obtain ⟨h1, h2, _, _, h5, h6, _⟩ := hc
  show p_ref23_spoken 0 (c, u) = some (spokenS c)
  unfold p_ref23_spoken spokenS devS
  dsimp only
  by_cases a1 : c.1 ≥ 0 ∧ c.1 < 16
  · rw [if_pos a1.1, if_pos a1.2, decide_eq_true (show 0 ≤ c.1 ∧ c.1 < 16 from a1), Bool.true_and]
    by_cases a2 : c.2.1 ≥ 0 ∧ c.2.1 < 16
    · rw [if_pos a2.1, if_pos a2.2, decide_eq_true (show 0 ≤ c.2.1 ∧ c.2.1 < 16 from a2), Bool.true_and]
      by_cases hne : c.1 ≠ c.2.1
      · rw [if_pos hne, decide_eq_true hne, Bool.true_and, at_One h5 h6, Option.bind_some]
        cases oneS c.2.2.2.2.1 c.2.2.2.2.2.1 with
        | false => rfl
        | true =>
          rw [if_pos rfl, Bool.true_and]
          by_cases h : ((c.2.2.2.2.2.2.1.length : Nat) : Int) ≥ 1
          · rw [if_pos h]
            exact congrArg some (decide_eq_decide.2 (by omega))
          · rw [if_neg h]
            exact congrArg some (decide_eq_false (by omega)).symm
      · rw [if_neg hne, decide_eq_false hne]; rfl
    · rw [decide_eq_false (show ¬(0 ≤ c.2.1 ∧ c.2.1 < 16) from a2)]
      by_cases a3 : c.2.1 ≥ 0
      · rw [if_pos a3, if_neg (by omega)]; rfl
      · rw [if_neg a3]; rfl
  · rw [decide_eq_false (show ¬(0 ≤ c.1 ∧ c.1 < 16) from a1)]
    by_cases a3 : c.1 ≥ 0
    · rw [if_pos a3, if_neg (by omega)]; rfl
    · rw [if_neg a3]; rfl
theorem at_spoken' {c : Cp} (h : cpOk c) : g_ref23_spoken (c, ()) = some (spokenS c) :=
  Spec_at (ks := p_ref23_spoken_ks) (rs := p_ref23_spoken_rs) (x := (c, ())) ⟨wf_cp.2 h, trivial⟩ trivial
/-- .. written from the end. -/
def bigR (n : Int) (w i : Nat) : List Int := List.replicate (w - i) 0 ++ bigS n i
theorem bigR_step (n : Int) {w i : Nat} (hi : i < w) : (bigR n w i).set (w - 1 - i) (n / 256 ^ i % 256) = bigR n w (i + 1) := by
  have e : bigS n (i + 1) = (n / 256 ^ i % 256) :: bigS n i := by
    unfold bigS
    rw [List.range_succ_eq_map, List.map_cons, List.map_map]
    congr 1
    · rw [show 8 * (i + 1 - 1 - 0) = 8 * i by omega, Int.pow_mul]; rfl
    · refine List.map_congr_left fun j _ => ?_
      simp only [Function.comp]
      rw [show i + 1 - 1 - (j + 1) = i - 1 - j by omega]
  unfold bigR
  rw [e, show w - i = (w - 1 - i) + 1 by omega, List.replicate_succ', List.append_assoc, List.set_append_right _ _ (by simp), show w - (i + 1) = w - 1 - i by omega]
  simp
theorem q_ref01_Big : ∀ x r, g_ref01_Big x = some r → ∃ N, p_ref01_Big N x = some r := by
  refine Spec_of (ks := p_ref01_Big_ks) (rs := p_ref01_Big_rs) fun x hw hq => ⟨10, ?_⟩
  obtain ⟨(n : Int), (w : Int), u⟩ := x
  have hn : 0 ≤ n ∧ n ≤ 18446744073709551615 := okInt_u64'.1 hw.1
  obtain ⟨h0, h1⟩ : 0 ≤ w ∧ w ≤ 8 := hq
  obtain ⟨w, rfl⟩ : ∃ m : Nat, w = m := ⟨w.toNat, by omega⟩
  show p_ref01_Big 10 (n, (w : Int), u) = some (bigS n ((w : Int).toNat))
  unfold p_ref01_Big
  dsimp only
  rw [if_pos h0, if_pos rfl, if_pos (by omega), Int.toNat_natCast, wrap_i64 (by omega) (by omega)]
  refine (iter_from (F := p_ref01_Big_l3_F 10) (s := fun i => (n / 256 ^ i, w, (w : Int) - 1 - i, w, bigR n w i, ())) (y := (w, w, bigS n w, ())) w ?_ ?_ ?_ 10 (by omega)).trans ?_
  · simp [bigR, bigS]
  · intro i hi kn
    have hp : (0 : Int) < 256 ^ i := Int.pow_pos (by decide)
    have hq0 : 0 ≤ n / 256 ^ i := Int.ediv_nonneg hn.1 (by omega)
    have hq1 : n / 256 ^ i ≤ n := Int.ediv_le_self _ hn.1
    have e1 : n / 256 ^ i / 256 = n / 256 ^ (i + 1) := by rw [Int.ediv_ediv_of_nonneg (by omega), Int.pow_succ]
    have et : ((w : Int) - 1 - (i : Int)).toNat = w - 1 - i := by omega
    unfold p_ref01_Big_l3_F
    dsimp only
    rw [if_pos (by omega), if_pos (by omega), if_pos (by omega), et, if_pos (by omega), tdiv_pos hq0, tmod_pos hq0, wrap_u8_mod, wrap_u64' (by omega) (by omega), wrap_i64 (by omega) (by omega), Int.emod_emod_of_dvd _ (Int.dvd_refl 256), bigR_step n hi, e1]
    congr 1
    simp only [Prod.mk.injEq, and_true, true_and]
    omega
  · intro kn
    unfold p_ref01_Big_l3_F
    dsimp only
    rw [if_neg (by omega)]
    simp [bigR]
  · rfl
theorem at_Big {n : Int} (hn : 0 ≤ n ∧ n ≤ 18446744073709551615) {w : Nat} (hw : w ≤ 8) : g_ref01_Big (n, (w : Int), ()) = some (bigS n w) := by
  have := Spec_at (ks := p_ref01_Big_ks) (rs := p_ref01_Big_rs) (x := (n, (w : Int), ())) (Q := fun x => 0 ≤ x.2.1 ∧ x.2.1 ≤ 8) (f := fun x => bigS x.1 x.2.1.toNat) ⟨okInt_u64'.2 hn, (okInt_i64 (n := (w : Int))).2 (by omega), trivial⟩ ⟨by show (0 : Int) ≤ w; omega, by show (w : Int) ≤ 8; omega⟩
  exact this
end Go.Ax.TryP
/-! ### Capsules as bytes: words, forms, the laws -/
set_option linter.unusedVariables false
namespace Go.Ax.TryP
theorem maxL : maxLen = 9223372036854775807 := by decide
theorem cp_eta (c : Cp) : (c.1, c.2.1, c.2.2.1, c.2.2.2.1, c.2.2.2.2.1, c.2.2.2.2.2.1, c.2.2.2.2.2.2.1, c.2.2.2.2.2.2.2.1, c.2.2.2.2.2.2.2.2.1, c.2.2.2.2.2.2.2.2.2.1, ()) = c := rfl
/-- Rows that are short enough to be joined. -/
def okRow (r : List Int) : Prop := r.length ≤ 100000 ∧ bytes r
theorem rows_of_ok {l : List (List Int)} (h : ∀ r ∈ l, okRow r) (hl : l.length ≤ 8) : (l.length ≤ 1000 ∧ l.flatten.length ≤ 1000000) ∧ rowsOk l := by
  have hM := maxL
  have key : ∀ (l : List (List Int)), (∀ r ∈ l, okRow r) → l.flatten.length ≤ 100000 * l.length := by
    intro l
    induction l with
    | nil => intro _; simp
    | cons r l ih =>
      intro h
      have h1 := (h r (by simp)).1
      have h2 := ih fun r hr => h r (by simp [hr])
      simp only [List.flatten_cons, List.length_append, List.length_cons]
      omega
  have := key l h
  exact ⟨⟨by omega, by omega⟩, by omega, fun r hr => ⟨by have := (h r hr).1; omega, (h r hr).2⟩⟩
theorem at_JoinR {l : List (List Int)} (h : ∀ r ∈ l, okRow r) (hl : l.length ≤ 8) : g_octet_Join (l, ()) = some l.flatten := at_Join (rows_of_ok h hl).1 (rows_of_ok h hl).2
theorem at_JoinR' {l : List (List Int)} (h : ∀ r ∈ l, okRow r) (hl : l.length ≤ 8) : g_ref01_Join (l, ()) = some l.flatten := at_Join' (rows_of_ok h hl).1 (rows_of_ok h hl).2
theorem ok_nil : okRow [] := ⟨by simp, fun z hz => by cases hz⟩
theorem ok_append {a b : List Int} (ha : a.length ≤ 50000 ∧ bytes a) (hb : b.length ≤ 50000 ∧ bytes b) : okRow (a ++ b) :=
  ⟨by rw [List.length_append]; omega, fun z hz => (List.mem_append.1 hz).elim (ha.2 z) (hb.2 z)⟩
theorem bytes_append {a b : List Int} (ha : bytes a) (hb : bytes b) : bytes (a ++ b) := fun z hz => (List.mem_append.1 hz).elim (ha z) (hb z)
theorem ok_big (n : Int) {w : Nat} (hw : w ≤ 8) : okRow (bigS n w) := ⟨by rw [bigS_len]; omega, bigS_bytes n w⟩
theorem q_ref23_text : ∀ x r, g_ref23_text x = some r → ∃ N, p_ref23_text N x = some r := by
  refine Spec_of (ks := p_ref23_text_ks) (rs := p_ref23_text_rs) fun x hw hq => ⟨0, ?_⟩
  obtain ⟨(b : List Int), u⟩ := x
  obtain ⟨hb1, hb2⟩ : b.length ≤ maxLen ∧ bytes b := wf_b1.1 hw.1
  have hq : b.length ≤ 60000 := hq
  unfold p_ref23_text
  dsimp only
  rw [wrap_u64' (by omega) (by omega), show (2 : Int) = ((2 : Nat) : Int) from rfl, at_Big ⟨by omega, by omega⟩ (by omega), Option.bind_some, at_JoinR' ?_ (by simp), Option.bind_some]
  · simp
  · intro r hr
    simp only [List.mem_cons, List.not_mem_nil, or_false] at hr
    rcases hr with rfl | rfl
    · exact ok_big _ (by omega)
    · exact ⟨by omega, hb2⟩
theorem at_text {b : List Int} (h : b.length ≤ 60000) (hb : bytes b) : g_ref23_text (b, ()) = some (bigS (b.length : Int) 2 ++ b) := by
  have hM := maxL
  exact Spec_at (ks := p_ref23_text_ks) (rs := p_ref23_text_rs) (x := (b, ())) ⟨(wf_b1 (b := b)).2 ⟨by omega, hb⟩, trivial⟩ h
theorem spoken_pub {c : Cp} (h : spokenS c = true) : 1 ≤ c.2.2.2.2.2.2.1.length ∧ c.2.2.2.2.2.2.1.length ≤ 68 := by
  unfold spokenS at h
  simp only [Bool.and_eq_true, decide_eq_true_eq] at h
  omega
theorem set2 (a b : Int) : List.set (List.set (List.replicate 2 (0 : Int)) 0 (IntKind.u8.wrap a)) 1 (IntKind.u8.wrap b) = [a % 256, b % 256] := by rw [wrap_u8_mod, wrap_u8_mod]; rfl
theorem q_ref23_Said : ∀ x r, g_ref23_Said x = some r → ∃ N, p_ref23_Said N x = some r := by
  refine Spec_of (ks := p_ref23_Said_ks) (rs := p_ref23_Said_rs) fun x hw hq => ⟨0, ?_⟩
  obtain ⟨(c : Cp), u⟩ := x
  have hc : cpOk c := wf_cp.1 hw.1
  have hc2 := hc
  obtain ⟨h1, h2, h3, h4, h5, h6, h7, _⟩ := hc2
  unfold p_ref23_Said
  dsimp only
  simp only [cp_eta]
  rw [at_spoken' hc, Option.bind_some]
  by_cases h : spokenS c = true
  · have hp := spoken_pub h
    rw [if_neg (by simp [h]), if_pos h, wrap_u64' h3.1 (by omega), wrap_u64' h4.1 (by omega), show (4 : Int) = ((4 : Nat) : Int) from rfl, show (8 : Int) = ((8 : Nat) : Int) from rfl,
      at_Big ⟨h3.1, by omega⟩ (by omega), Option.bind_some, at_Big ⟨h4.1, by omega⟩ (by omega), Option.bind_some, at_Big h5 (by omega), Option.bind_some, at_Big h6 (by omega), Option.bind_some,
      at_text (by omega) h7.2, Option.bind_some, set2, at_JoinR' ?_ (by simp), Option.bind_some]
    · unfold saidS
      simp only [List.flatten_cons, List.flatten_nil, List.append_nil, List.append_assoc]
    · intro r hr
      simp only [List.mem_cons, List.not_mem_nil, or_false] at hr
      rcases hr with rfl | rfl | rfl | rfl | rfl | rfl
      · exact ⟨by simp, two_bytes _ _⟩
      · exact ok_big _ (by omega)
      · exact ok_big _ (by omega)
      · exact ok_big _ (by omega)
      · exact ok_big _ (by omega)
      · exact ok_append ⟨by rw [bigS_len]; omega, bigS_bytes _ _⟩ ⟨by omega, h7.2⟩
  · rw [if_pos h, if_neg h]
theorem at_Said' {c : Cp} (h : cpOk c) : g_ref23_Said (c, ()) = some (if spokenS c = true then saidS c else []) :=
  Spec_at (ks := p_ref23_Said_ks) (rs := p_ref23_Said_rs) (x := (c, ())) ⟨wf_cp.2 h, trivial⟩ trivial
theorem q_ref23_worded : ∀ x r, g_ref23_worded x = some r → ∃ N, p_ref23_worded N x = some r := by
  refine Spec_of (ks := p_ref23_worded_ks) (rs := p_ref23_worded_rs) fun x hw hq => ⟨0, ?_⟩
  obtain ⟨(c : Cp), u⟩ := x
  have hc : cpOk c := wf_cp.1 hw.1
  show p_ref23_worded 0 (c, u) = some (wordedS c)
  unfold p_ref23_worded wordedS
  dsimp only
  simp only [cp_eta]
  rw [at_spoken' hc, Option.bind_some]
  cases spokenS c with
  | false => rfl
  | true =>
    rw [if_pos rfl, Bool.true_and]
    by_cases h1 : ((c.2.2.2.2.2.2.2.1.length : Nat) : Int) = 1088
    · rw [if_pos h1]
      by_cases h2 : ((c.2.2.2.2.2.2.2.2.1.length : Nat) : Int) ≥ 33
      · rw [if_pos h2]
        exact congrArg some (decide_eq_decide.2 (by omega))
      · rw [if_neg h2]
        exact congrArg some (decide_eq_false (by omega)).symm
    · rw [if_neg h1]
      exact congrArg some (decide_eq_false (by omega)).symm
theorem at_worded' {c : Cp} (h : cpOk c) : g_ref23_worded (c, ()) = some (wordedS c) :=
  Spec_at (ks := p_ref23_worded_ks) (rs := p_ref23_worded_rs) (x := (c, ())) ⟨wf_cp.2 h, trivial⟩ trivial
theorem q_capsule_worded : ∀ x r, g_capsule_worded x = some r → ∃ N, p_capsule_worded N x = some r := by
  refine Spec_of (ks := p_capsule_worded_ks) (rs := p_capsule_worded_rs) fun x hw hq => ⟨0, ?_⟩
  obtain ⟨(c : Cp), u⟩ := x
  have hc : cpOk c := wf_cp.1 hw.1
  have hc2 := hc
  obtain ⟨_, _, _, _, _, _, _, _, h9, _⟩ := hc2
  have hM := maxL
  show p_capsule_worded 0 (c, u) = some (wordedS c)
  unfold p_capsule_worded wordedS
  dsimp only
  simp only [cp_eta]
  rw [at_spoken hc, Option.bind_some]
  cases spokenS c with
  | false => rfl
  | true =>
    rw [if_pos rfl, Bool.true_and]
    rw [wrap_i64 (x := ((c.2.2.2.2.2.2.2.2.1.length : Nat) : Int) - 32) (by omega) (by omega)]
    by_cases h1 : ((c.2.2.2.2.2.2.2.1.length : Nat) : Int) = 1088
    · rw [if_pos h1]
      by_cases h2 : ((c.2.2.2.2.2.2.2.2.1.length : Nat) : Int) - 32 ≥ 1
      · rw [if_pos h2]
        exact congrArg some (decide_eq_decide.2 (by omega))
      · rw [if_neg h2]
        exact congrArg some (decide_eq_false (by omega)).symm
    · rw [if_neg h1]
      exact congrArg some (decide_eq_false (by omega)).symm
theorem at_worded {c : Cp} (h : cpOk c) : g_capsule_worded (c, ()) = some (wordedS c) :=
  Spec_at (ks := p_capsule_worded_ks) (rs := p_capsule_worded_rs) (x := (c, ())) ⟨wf_cp.2 h, trivial⟩ trivial
theorem q_ref23_May : ∀ x r, g_ref23_May x = some r → ∃ N, p_ref23_May N x = some r := by
  refine Spec_of (ks := p_ref23_May_ks) (rs := p_ref23_May_rs) fun x hw hq => ⟨0, ?_⟩
  obtain ⟨(c : Cp), u⟩ := x
  have hc : cpOk c := wf_cp.1 hw.1
  show p_ref23_May 0 (c, u) = some (mayS c)
  unfold p_ref23_May mayS
  dsimp only
  simp only [cp_eta]
  rw [at_worded' hc, Option.bind_some]
  cases wordedS c with
  | false => rfl
  | true =>
    rw [if_pos rfl, Bool.true_and]
    exact congrArg some (decide_eq_decide.2 (by omega))
theorem at_May' {c : Cp} (h : cpOk c) : g_ref23_May (c, ()) = some (mayS c) :=
  Spec_at (ks := p_ref23_May_ks) (rs := p_ref23_May_rs) (x := (c, ())) ⟨wf_cp.2 h, trivial⟩ trivial
theorem q_capsule_Check : ∀ x r, g_capsule_Check x = some r → ∃ N, p_capsule_Check N x = some r := by
  refine Spec_of (ks := p_capsule_Check_ks) (rs := p_capsule_Check_rs) fun x hw hq => ⟨0, ?_⟩
  obtain ⟨(c : Cp), u⟩ := x
  have hc : cpOk c := wf_cp.1 hw.1
  show p_capsule_Check 0 (c, u) = some (if mayS c = true then 0 else 230)
  unfold p_capsule_Check mayS
  dsimp only
  simp only [cp_eta]
  rw [at_worded hc, Option.bind_some]
  cases wordedS c with
  | false => rfl
  | true =>
    rw [if_neg (by simp), Bool.true_and]
    by_cases h : c.2.2.2.2.2.2.2.2.2.1.length = 3309
    · rw [if_neg (by omega), if_pos (decide_eq_true h)]
    · rw [if_pos (by omega), if_neg (by simp [h])]
theorem at_Check {c : Cp} (h : cpOk c) : g_capsule_Check (c, ()) = some (if mayS c = true then 0 else 230) :=
  Spec_at (ks := p_capsule_Check_ks) (rs := p_capsule_Check_rs) (x := (c, ())) ⟨wf_cp.2 h, trivial⟩ trivial
theorem said_ok {c : Cp} (hc : cpOk c) (h : c.2.2.2.2.2.2.1.length ≤ 60000) : okRow (saidS c) := by
  have hc2 := hc
  obtain ⟨_, _, _, _, _, _, h7, _⟩ := hc2
  unfold saidS
  refine ⟨?_, ?_⟩
  · simp only [List.length_append, bigS_len, List.length_cons, List.length_nil]; omega
  · exact bytes_append (bytes_append (bytes_append (bytes_append (bytes_append (bytes_append (two_bytes _ _) (bigS_bytes _ _)) (bigS_bytes _ _)) (bigS_bytes _ _)) (bigS_bytes _ _)) (bigS_bytes _ _)) h7.2
theorem q_capsule_inner : ∀ x r, g_capsule_inner x = some r → ∃ N, p_capsule_inner N x = some r := by
  refine Spec_of (ks := p_capsule_inner_ks) (rs := p_capsule_inner_rs) fun x hw hq => ⟨0, ?_⟩
  obtain ⟨(c : Cp), u⟩ := x
  have hc : cpOk c := wf_cp.1 hw.1
  have hc2 := hc
  obtain ⟨h1, h2, h3, h4, h5, h6, h7, h8, h9, h10⟩ := hc2
  obtain ⟨q1, q2, q3⟩ : c.2.2.2.2.2.2.1.length ≤ 60000 ∧ c.2.2.2.2.2.2.2.1.length ≤ 60000 ∧ c.2.2.2.2.2.2.2.2.1.length ≤ 60000 := hq
  unfold p_capsule_inner
  dsimp only
  simp only [cp_eta]
  rw [at_said hc q1, Option.bind_some]
  have w16 : IntKind.u16.wrap ((c.2.2.2.2.2.2.2.2.1.length : Nat) : Int) = (c.2.2.2.2.2.2.2.2.1.length : Int) := by rw [wrap_u16_mod]; omega
  rw [w16, at_U16 (by omega), Option.bind_some, at_JoinR ?_ (by simp), Option.bind_some]
  · unfold innerS
    simp only [List.flatten_cons, List.flatten_nil, List.append_nil, List.append_assoc]
  · intro r hr
    simp only [List.mem_cons, List.not_mem_nil, or_false] at hr
    rcases hr with rfl | rfl | rfl | rfl
    · exact said_ok hc q1
    · exact ⟨by omega, h8.2⟩
    · exact ok_big _ (by omega)
    · exact ⟨by omega, h9.2⟩
theorem at_inner {c : Cp} (h : cpOk c) (q : c.2.2.2.2.2.2.1.length ≤ 60000 ∧ c.2.2.2.2.2.2.2.1.length ≤ 60000 ∧ c.2.2.2.2.2.2.2.2.1.length ≤ 60000) : g_capsule_inner (c, ()) = some (innerS c) :=
  Spec_at (ks := p_capsule_inner_ks) (rs := p_capsule_inner_rs) (x := (c, ())) ⟨wf_cp.2 h, trivial⟩ q
theorem worded_len {c : Cp} (h : wordedS c = true) : spokenS c = true ∧ (1 ≤ c.2.2.2.2.2.2.1.length ∧ c.2.2.2.2.2.2.1.length ≤ 68) ∧ c.2.2.2.2.2.2.2.1.length = 1088 ∧ 33 ≤ c.2.2.2.2.2.2.2.2.1.length ∧ c.2.2.2.2.2.2.2.2.1.length ≤ 288 := by
  unfold wordedS at h
  simp only [Bool.and_eq_true, decide_eq_true_eq] at h
  exact ⟨h.1, spoken_pub h.1, h.2.1, h.2.2⟩
theorem inner_ok {c : Cp} (hc : cpOk c) (h : wordedS c = true) : okRow (innerS c) ∧ (innerS c).length ≤ 2000 := by
  obtain ⟨h1, h2, h3, h4, h5⟩ := worded_len h
  have hc2 := hc
  obtain ⟨_, _, _, _, _, _, _, g8, g9, _⟩ := hc2
  have hs := said_ok hc (by omega)
  have hl : (saidS c).length ≤ 100 := by
    unfold saidS
    simp only [List.length_append, bigS_len, List.length_cons, List.length_nil]; omega
  have hl2 : (innerS c).length ≤ 2000 := by
    unfold innerS
    simp only [List.length_append, bigS_len]; omega
  exact ⟨⟨by omega, bytes_append (bytes_append (bytes_append hs.2 g8.2) (bigS_bytes _ _)) g9.2⟩, hl2⟩
theorem title_set : (List.set (List.set (List.set (List.set (List.set (List.set (List.set (List.set (List.set (List.set (List.set (List.set (List.set (List.set (List.replicate 14 0) 0 (108:Int)) 1 (105:Int)) 2 (118:Int)) 3 (101:Int)) 4 (114:Int)) 5 (121:Int)) 6 (32:Int)) 7 (99:Int)) 8 (97:Int)) 9 (112:Int)) 10 (115:Int)) 11 (117:Int)) 12 (108:Int)) 13 (101:Int)) = titleS := rfl
theorem title_ok : okRow titleS := by
  refine ⟨by decide, fun z hz => ?_⟩
  simp only [titleS, List.mem_cons, List.not_mem_nil, or_false] at hz
  omega
theorem q_capsule_Words : ∀ x r, g_capsule_Words x = some r → ∃ N, p_capsule_Words N x = some r := by
  refine Spec_of (ks := p_capsule_Words_ks) (rs := p_capsule_Words_rs) fun x hw hq => ⟨0, ?_⟩
  obtain ⟨(c : Cp), u⟩ := x
  have hc : cpOk c := wf_cp.1 hw.1
  show p_capsule_Words 0 (c, u) = some (if wordedS c = true then titleS ++ innerS c else [])
  unfold p_capsule_Words
  dsimp only
  simp only [cp_eta]
  rw [at_worded hc, Option.bind_some]
  by_cases h : wordedS c = true
  · obtain ⟨h1, h2, h3, h4, h5⟩ := worded_len h
    rw [if_neg (by simp [h]), if_pos h, if_pos (by decide), title_set]
    rw [at_inner hc (by omega), Option.bind_some, at_JoinR ?_ (by simp), Option.bind_some]
    · simp
    · intro r hr
      simp only [List.mem_cons, List.not_mem_nil, or_false] at hr
      rcases hr with rfl | rfl
      · exact title_ok
      · exact (inner_ok hc h).1
  · rw [if_pos h, if_neg h]
theorem at_Words {c : Cp} (h : cpOk c) : g_capsule_Words (c, ()) = some (if wordedS c = true then titleS ++ innerS c else []) :=
  Spec_at (ks := p_capsule_Words_ks) (rs := p_capsule_Words_rs) (x := (c, ())) ⟨wf_cp.2 h, trivial⟩ trivial
theorem q_ref23_Words : ∀ x r, g_ref23_Words x = some r → ∃ N, p_ref23_Words N x = some r := by
  refine Spec_of (ks := p_ref23_Words_ks) (rs := p_ref23_Words_rs) fun x hw hq => ⟨0, ?_⟩
  obtain ⟨(c : Cp), u⟩ := x
  have hc : cpOk c := wf_cp.1 hw.1
  have hc2 := hc
  obtain ⟨_, _, _, _, _, _, g7, g8, g9, _⟩ := hc2
  show p_ref23_Words 0 (c, u) = some (if wordedS c = true then titleS ++ innerS c else [])
  unfold p_ref23_Words
  dsimp only
  simp only [cp_eta]
  rw [at_worded' hc, Option.bind_some]
  by_cases h : wordedS c = true
  · obtain ⟨h1, h2, h3, h4, h5⟩ := worded_len h
    have hs := said_ok hc (by omega)
    rw [if_neg (by simp [h]), if_pos h, if_pos (by decide), title_set]
    rw [at_Said' hc, Option.bind_some, if_pos h1]
    rw [at_text (by omega) g9.2, Option.bind_some, at_JoinR' ?_ (by simp), Option.bind_some]
    · unfold innerS
      simp only [List.flatten_cons, List.flatten_nil, List.append_nil, List.append_assoc]
    · intro r hr
      simp only [List.mem_cons, List.not_mem_nil, or_false] at hr
      rcases hr with rfl | rfl | rfl | rfl
      · exact title_ok
      · exact hs
      · exact ⟨by omega, g8.2⟩
      · exact ok_append ⟨by rw [bigS_len]; omega, bigS_bytes _ _⟩ ⟨by omega, g9.2⟩
  · rw [if_pos h, if_neg h]
theorem at_Words' {c : Cp} (h : cpOk c) : g_ref23_Words (c, ()) = some (if wordedS c = true then titleS ++ innerS c else []) :=
  Spec_at (ks := p_ref23_Words_ks) (rs := p_ref23_Words_rs) (x := (c, ())) ⟨wf_cp.2 h, trivial⟩ trivial
theorem may_len {c : Cp} (h : mayS c = true) : wordedS c = true ∧ c.2.2.2.2.2.2.2.2.2.1.length = 3309 := by
  unfold mayS at h
  simp only [Bool.and_eq_true, decide_eq_true_eq] at h
  exact h
theorem q_capsule_Put : ∀ x r, g_capsule_Put x = some r → ∃ N, p_capsule_Put N x = some r := by
  refine Spec_of (ks := p_capsule_Put_ks) (rs := p_capsule_Put_rs) fun x hw hq => ⟨0, ?_⟩
  obtain ⟨(c : Cp), u⟩ := x
  have hc : cpOk c := wf_cp.1 hw.1
  have hc2 := hc
  obtain ⟨_, _, _, _, _, _, g7, g8, g9, g10⟩ := hc2
  show p_capsule_Put 0 (c, u) = some (putS c)
  unfold p_capsule_Put putS
  dsimp only
  simp only [cp_eta]
  rw [at_Check hc, Option.bind_some]
  by_cases h : mayS c = true
  · obtain ⟨k1, k2⟩ := may_len h
    obtain ⟨h1, h2, h3, h4, h5⟩ := worded_len k1
    rw [if_pos h, if_neg (by decide)]
    rw [at_inner hc (by omega), Option.bind_some]
    rw [at_JoinR ?_ (by simp), Option.bind_some]
    · simp [h]
    · intro r hr
      simp only [List.mem_cons, List.not_mem_nil, or_false] at hr
      rcases hr with rfl | rfl
      · exact (inner_ok hc k1).1
      · exact ⟨by omega, g10.2⟩
  · rw [if_neg h, if_pos (by decide), if_neg h]
theorem at_Put {c : Cp} (h : cpOk c) : g_capsule_Put (c, ()) = some (putS c) :=
  Spec_at (ks := p_capsule_Put_ks) (rs := p_capsule_Put_rs) (x := (c, ())) ⟨wf_cp.2 h, trivial⟩ trivial
theorem q_ref23_Put : ∀ x r, g_ref23_Put x = some r → ∃ N, p_ref23_Put N x = some r := by
  refine Spec_of (ks := p_ref23_Put_ks) (rs := p_ref23_Put_rs) fun x hw hq => ⟨0, ?_⟩
  obtain ⟨(c : Cp), u⟩ := x
  have hc : cpOk c := wf_cp.1 hw.1
  have hc2 := hc
  obtain ⟨_, _, _, _, _, _, g7, g8, g9, g10⟩ := hc2
  show p_ref23_Put 0 (c, u) = some (putS c)
  unfold p_ref23_Put putS
  dsimp only
  simp only [cp_eta]
  rw [at_May' hc, Option.bind_some]
  by_cases h : mayS c = true
  · obtain ⟨k1, k2⟩ := may_len h
    obtain ⟨h1, h2, h3, h4, h5⟩ := worded_len k1
    rw [if_neg (by simp [h])]
    rw [at_Words' hc, Option.bind_some, if_pos k1]
    have hl : (titleS ++ innerS c).length = 14 + (innerS c).length := by rw [List.length_append]; rfl
    have hd : List.take ((titleS ++ innerS c).length - 14) (List.drop 14 (titleS ++ innerS c)) = innerS c := by
      have : List.drop 14 (titleS ++ innerS c) = innerS c := by rw [List.drop_append_of_le_length (by decide)]; rfl
      rw [this, hl]
      exact List.take_of_length_le (by omega)
    rw [if_pos (by omega), hd, at_JoinR' ?_ (by simp), Option.bind_some]
    · simp [h]
    · intro r hr
      simp only [List.mem_cons, List.not_mem_nil, or_false] at hr
      rcases hr with rfl | rfl
      · exact (inner_ok hc k1).1
      · exact ⟨by omega, g10.2⟩
  · rw [if_pos h, if_neg h]
theorem at_Put' {c : Cp} (h : cpOk c) : g_ref23_Put (c, ()) = some (putS c) :=
  Spec_at (ks := p_ref23_Put_ks) (rs := p_ref23_Put_rs) (x := (c, ())) ⟨wf_cp.2 h, trivial⟩ trivial
end Go.Ax.TryP
/-! ### Capsules as bytes: which are the same; the laws -/
set_option linter.unusedVariables false
namespace Go.Ax.TryP
theorem q_capsule_Same : ∀ x r, g_capsule_Same x = some r → ∃ N, p_capsule_Same N x = some r := by
  refine Spec_of (ks := p_capsule_Same_ks) (rs := p_capsule_Same_rs) fun x hw hq => ⟨0, ?_⟩
  obtain ⟨(c : Cp), (d : Cp), u⟩ := x
  have hc : cpOk c := wf_cp.1 hw.1
  have hd : cpOk d := wf_cp.1 hw.2.1
  obtain ⟨_, _, _, _, _, _, h7, h8, h9, h10⟩ := hc
  obtain ⟨_, _, _, _, _, _, k7, k8, k9, k10⟩ := hd
  show p_capsule_Same 0 (c, d, u) = some (sameS c d)
  unfold p_capsule_Same sameS
  dsimp only
  by_cases e0 : c.1 = d.1
  rotate_left
  · rw [if_neg e0, decide_eq_false e0]; simp
  rw [if_pos e0, decide_eq_true e0]
  by_cases e1 : c.2.1 = d.2.1
  rotate_left
  · rw [if_neg e1, decide_eq_false e1]; simp
  rw [if_pos e1, decide_eq_true e1]
  by_cases e2 : c.2.2.1 = d.2.2.1
  rotate_left
  · rw [if_neg e2, decide_eq_false e2]; simp
  rw [if_pos e2, decide_eq_true e2]
  by_cases e3 : c.2.2.2.1 = d.2.2.2.1
  rotate_left
  · rw [if_neg e3, decide_eq_false e3]; simp
  rw [if_pos e3, decide_eq_true e3]
  by_cases e4 : c.2.2.2.2.1 = d.2.2.2.2.1
  rotate_left
  · rw [if_neg (by simp [e4]), decide_eq_false e4]; simp
  by_cases e5 : c.2.2.2.2.2.1 = d.2.2.2.2.2.1
  rotate_left
  · rw [if_neg (by simp [e5]), decide_eq_false e5]; simp
  rw [if_pos (by rw [e4, e5]), decide_eq_true e4, decide_eq_true e5]
  rw [at_Same h7 k7, Option.bind_some]
  by_cases e6 : c.2.2.2.2.2.2.1 = d.2.2.2.2.2.2.1
  rotate_left
  · rw [decide_eq_false e6]; simp
  rw [decide_eq_true e6, if_pos rfl]
  rw [at_Same h8 k8, Option.bind_some]
  by_cases e7 : c.2.2.2.2.2.2.2.1 = d.2.2.2.2.2.2.2.1
  rotate_left
  · rw [decide_eq_false e7]; simp
  rw [decide_eq_true e7, if_pos rfl]
  rw [at_Same h9 k9, Option.bind_some]
  by_cases e8 : c.2.2.2.2.2.2.2.2.1 = d.2.2.2.2.2.2.2.2.1
  rotate_left
  · rw [decide_eq_false e8]; simp
  rw [decide_eq_true e8, if_pos rfl]
  rw [at_Same h10 k10, Option.bind_some]
  simp
theorem at_capsule_Same {c d : Cp} (hc : cpOk c) (hd : cpOk d) : g_capsule_Same (c, d, ()) = some (sameS c d) :=
  Spec_at (ks := p_capsule_Same_ks) (rs := p_capsule_Same_rs) (x := (c, d, ())) ⟨wf_cp.2 hc, wf_cp.2 hd, trivial⟩ trivial
theorem q_ref23_Same : ∀ x r, g_ref23_Same x = some r → ∃ N, p_ref23_Same N x = some r := by
  refine Spec_of (ks := p_ref23_Same_ks) (rs := p_ref23_Same_rs) fun x hw hq => ⟨0, ?_⟩
  obtain ⟨(c : Cp), (d : Cp), u⟩ := x
  have hc : cpOk c := wf_cp.1 hw.1
  have hd : cpOk d := wf_cp.1 hw.2.1
  obtain ⟨_, _, _, _, _, _, h7, h8, h9, h10⟩ := hc
  obtain ⟨_, _, _, _, _, _, k7, k8, k9, k10⟩ := hd
  show p_ref23_Same 0 (c, d, u) = some (sameS c d)
  unfold p_ref23_Same sameS
  dsimp only
  by_cases e0 : c.1 = d.1
  rotate_left
  · rw [if_neg e0, decide_eq_false e0]; simp
  rw [if_pos e0, decide_eq_true e0]
  by_cases e1 : c.2.1 = d.2.1
  rotate_left
  · rw [if_neg e1, decide_eq_false e1]; simp
  rw [if_pos e1, decide_eq_true e1]
  by_cases e2 : c.2.2.1 = d.2.2.1
  rotate_left
  · rw [if_neg e2, decide_eq_false e2]; simp
  rw [if_pos e2, decide_eq_true e2]
  by_cases e3 : c.2.2.2.1 = d.2.2.2.1
  rotate_left
  · rw [if_neg e3, decide_eq_false e3]; simp
  rw [if_pos e3, decide_eq_true e3]
  by_cases e4 : c.2.2.2.2.1 = d.2.2.2.2.1
  rotate_left
  · rw [if_neg (by simp [e4]), decide_eq_false e4]; simp
  by_cases e5 : c.2.2.2.2.2.1 = d.2.2.2.2.2.1
  rotate_left
  · rw [if_neg (by simp [e5]), decide_eq_false e5]; simp
  rw [if_pos (by rw [e4, e5]), decide_eq_true e4, decide_eq_true e5]
  rw [at_Equal2 h7 k7, Option.bind_some]
  by_cases e6 : c.2.2.2.2.2.2.1 = d.2.2.2.2.2.2.1
  rotate_left
  · rw [decide_eq_false e6]; simp
  rw [decide_eq_true e6, if_pos rfl]
  rw [at_Equal2 h8 k8, Option.bind_some]
  by_cases e7 : c.2.2.2.2.2.2.2.1 = d.2.2.2.2.2.2.2.1
  rotate_left
  · rw [decide_eq_false e7]; simp
  rw [decide_eq_true e7, if_pos rfl]
  rw [at_Equal2 h9 k9, Option.bind_some]
  by_cases e8 : c.2.2.2.2.2.2.2.2.1 = d.2.2.2.2.2.2.2.2.1
  rotate_left
  · rw [decide_eq_false e8]; simp
  rw [decide_eq_true e8, if_pos rfl]
  rw [at_Equal2 h10 k10, Option.bind_some]
  simp
theorem at_ref23_Same {c d : Cp} (hc : cpOk c) (hd : cpOk d) : g_ref23_Same (c, d, ()) = some (sameS c d) :=
  Spec_at (ks := p_ref23_Same_ks) (rs := p_ref23_Same_rs) (x := (c, d, ())) ⟨wf_cp.2 hc, wf_cp.2 hd, trivial⟩ trivial
theorem big_inj2 {n m : Nat} (hn : n ≤ 60000) (hm : m ≤ 60000) (h : bigS (n : Int) 2 = bigS (m : Int) 2) : n = m := by
  have := bigS_inj (w := 2) (n := (n : Int)) (m := (m : Int)) (by rw [show (256 : Int) ^ 2 = 65536 by decide]; omega) (by rw [show (256 : Int) ^ 2 = 65536 by decide]; omega) h
  omega
theorem spoken_dev {c : Cp} (h : spokenS c = true) : (0 ≤ c.1 ∧ c.1 < 16) ∧ (0 ≤ c.2.1 ∧ c.2.1 < 16) := by
  unfold spokenS devS at h
  simp only [Bool.and_eq_true, decide_eq_true_eq] at h
  exact ⟨h.1, h.2.1⟩
theorem big_inj4 {n m : Int} (hn : 0 ≤ n ∧ n ≤ 4294967295) (hm : 0 ≤ m ∧ m ≤ 4294967295) (h : bigS n 4 = bigS m 4) : n = m :=
  bigS_inj (by rw [show (256 : Int) ^ 4 = 4294967296 by decide]; omega) (by rw [show (256 : Int) ^ 4 = 4294967296 by decide]; omega) h
theorem big_inj8 {n m : Int} (hn : 0 ≤ n ∧ n ≤ 18446744073709551615) (hm : 0 ≤ m ∧ m ≤ 18446744073709551615) (h : bigS n 8 = bigS m 8) : n = m :=
  bigS_inj (by rw [show (256 : Int) ^ 8 = 18446744073709551616 by decide]; omega) (by rw [show (256 : Int) ^ 8 = 18446744073709551616 by decide]; omega) h
/-- Where words are, they tell all but the signature. -/
theorem inner_inj {c d : Cp} (hc : cpOk c) (hd : cpOk d) (wc : wordedS c = true) (wd : wordedS d = true) (h : innerS c = innerS d) (hs : c.2.2.2.2.2.2.2.2.2.1 = d.2.2.2.2.2.2.2.2.2.1) : c = d := by
  obtain ⟨h1, h2, h3, h4, h5⟩ := worded_len wc
  obtain ⟨k1, k2, k3, k4, k5⟩ := worded_len wd
  obtain ⟨p1, p2⟩ := spoken_dev h1
  obtain ⟨q1, q2⟩ := spoken_dev k1
  obtain ⟨_, _, c3, c4, c5, c6, _⟩ := hc
  obtain ⟨_, _, d3, d4, d5, d6, _⟩ := hd
  unfold innerS saidS at h
  simp only [List.append_assoc] at h
  obtain ⟨e0, h⟩ := List.append_inj h rfl
  obtain ⟨e2, h⟩ := List.append_inj h (by simp [bigS_len])
  obtain ⟨e3, h⟩ := List.append_inj h (by simp [bigS_len])
  obtain ⟨e4, h⟩ := List.append_inj h (by simp [bigS_len])
  obtain ⟨e5, h⟩ := List.append_inj h (by simp [bigS_len])
  obtain ⟨e6, h⟩ := List.append_inj h (by simp [bigS_len])
  have l6 := big_inj2 (by omega) (by omega) e6
  obtain ⟨e7, h⟩ := List.append_inj h l6
  obtain ⟨e8, h⟩ := List.append_inj h (by omega)
  obtain ⟨_, e10⟩ := List.append_inj h (by simp [bigS_len])
  simp only [List.cons.injEq, and_true] at e0
  have f0 : c.1 = d.1 := by omega
  have f1 : c.2.1 = d.2.1 := by omega
  have f2 := big_inj4 c3 d3 e2
  have f3 := big_inj4 c4 d4 e3
  have f4 := big_inj8 c5 d5 e4
  have f5 := big_inj8 c6 d6 e5
  exact sameS_iff.1 (by unfold sameS; simp [f0, f1, f2, f3, f4, f5, e7, e8, e10, hs])
theorem bigB_len {c : Cp} (h : bigB c = false) : c.2.2.2.2.2.2.1.length ≤ 9000 ∧ c.2.2.2.2.2.2.2.1.length ≤ 9000 ∧ c.2.2.2.2.2.2.2.2.1.length ≤ 9000 ∧ c.2.2.2.2.2.2.2.2.2.1.length ≤ 9000 := by
  unfold bigB at h
  simp only [Bool.or_eq_false_iff, decide_eq_false_iff_not] at h
  omega
theorem words_ok {c : Cp} (hc : cpOk c) : (if wordedS c = true then titleS ++ innerS c else []).length ≤ maxLen ∧ bytes (if wordedS c = true then titleS ++ innerS c else []) := by
  have hM := maxL
  by_cases h : wordedS c = true
  · rw [if_pos h]
    obtain ⟨g1, g2⟩ := inner_ok hc h
    exact ⟨by rw [List.length_append, hM]; have : titleS.length = 14 := rfl; omega, bytes_append title_ok.2 g1.2⟩
  · rw [if_neg h]
    exact ⟨Nat.zero_le _, fun z hz => by cases hz⟩
theorem said_ok2 {c : Cp} (hc : cpOk c) : (if spokenS c = true then saidS c else []).length ≤ maxLen ∧ bytes (if spokenS c = true then saidS c else []) := by
  have hM := maxL
  by_cases h : spokenS c = true
  · rw [if_pos h]
    have hp := spoken_pub h
    obtain ⟨g1, g2⟩ := said_ok hc (by omega)
    exact ⟨by omega, g2⟩
  · rw [if_neg h]
    exact ⟨Nat.zero_le _, fun z hz => by cases hz⟩
theorem put_ok {c : Cp} (hc : cpOk c) : (putS c).1.length ≤ maxLen ∧ bytes (putS c).1 := by
  have hM := maxL
  unfold putS
  by_cases h : mayS c = true
  · rw [if_pos h]
    obtain ⟨k1, k2⟩ := may_len h
    obtain ⟨g1, g2⟩ := inner_ok hc k1
    obtain ⟨_, _, _, _, _, _, _, _, _, g10⟩ := hc
    exact ⟨by show (innerS c ++ _).length ≤ _; rw [List.length_append]; omega, bytes_append g1.2 g10.2⟩
  · rw [if_neg h]
    exact ⟨Nat.zero_le _, fun z hz => by cases hz⟩
theorem q_law23_CapsuleApart : ∀ x r, g_law23_CapsuleApart x = some r → ∃ N, p_law23_CapsuleApart N x = some r := by
  refine Spec_of (ks := p_law23_CapsuleApart_ks) (rs := p_law23_CapsuleApart_rs) fun x hw hq => ⟨0, ?_⟩
  obtain ⟨(c : Cp), (d : Cp), u⟩ := x
  have hc : cpOk c := wf_cp.1 hw.1
  have hd : cpOk d := wf_cp.1 hw.2.1
  show p_law23_CapsuleApart 0 (c, d, u) = some true
  unfold p_law23_CapsuleApart
  dsimp only
  simp only [cp_eta]
  rw [at_live, Option.bind_some, if_neg (by simp), at_bigB hc, Option.bind_some]
  by_cases b1 : bigB c = true
  · rw [if_pos b1, Option.bind_some]; rfl
  rw [if_neg b1, at_bigB hd, Option.bind_some]
  by_cases b2 : bigB d = true
  · rw [if_pos b2, Option.bind_some]; rfl
  rw [if_neg b2, at_May' hc, Option.bind_some]
  by_cases m1 : mayS c = true
  rotate_left
  · rw [if_pos m1, Option.bind_some]; rfl
  rw [if_neg (by simp [m1]), at_May' hd, Option.bind_some]
  by_cases m2 : mayS d = true
  rotate_left
  · rw [if_pos m2, Option.bind_some]; rfl
  obtain ⟨w1, _⟩ := may_len m1
  obtain ⟨w2, _⟩ := may_len m2
  have o1 := words_ok hc
  have o2 := words_ok hd
  rw [if_neg (by simp [m2]), at_Words hc, Option.bind_some, at_Words hd, Option.bind_some, at_Equal2 o1 o2, Option.bind_some, if_pos w1, if_pos w2]
  rw [if_pos (by rw [List.length_append]; have : titleS.length = 14 := rfl; omega)]
  obtain ⟨_, _, _, _, _, _, _, _, _, g10⟩ := id hc
  obtain ⟨_, _, _, _, _, _, _, _, _, k10⟩ := id hd
  by_cases e : titleS ++ innerS c = titleS ++ innerS d
  · rw [if_pos (by simp [e]), at_Equal2 g10 k10, Option.bind_some, at_capsule_Same hc hd, Option.bind_some]
    refine congrArg some (decide_eq_true ?_)
    have key : c.2.2.2.2.2.2.2.2.2.1 = d.2.2.2.2.2.2.2.2.2.1 ↔ sameS c d = true :=
      ⟨fun h => sameS_iff.2 (inner_inj hc hd w1 w2 (List.append_cancel_left e) h), fun h => by rw [sameS_iff.1 h]⟩
    by_cases h : sameS c d = true
    · simp [h, key.2 h]
    · simp [h]
      exact fun h' => h (key.1 h')
  · rw [if_neg (by simp [e]), at_capsule_Same hc hd, Option.bind_some]
    refine congrArg some (decide_eq_true ?_)
    have h : sameS c d = false := by
      cases h : sameS c d with
      | false => rfl
      | true => exact absurd (by rw [sameS_iff.1 h]) e
    simp [h]
theorem q_law23_CapsulePuts : ∀ x r, g_law23_CapsulePuts x = some r → ∃ N, p_law23_CapsulePuts N x = some r := by
  refine Spec_of (ks := p_law23_CapsulePuts_ks) (rs := p_law23_CapsulePuts_rs) fun x hw hq => ⟨0, ?_⟩
  obtain ⟨(c : Cp), (d : Cp), u⟩ := x
  have hc : cpOk c := wf_cp.1 hw.1
  have hd : cpOk d := wf_cp.1 hw.2.1
  show p_law23_CapsulePuts 0 (c, d, u) = some true
  unfold p_law23_CapsulePuts
  dsimp only
  simp only [cp_eta]
  have op := put_ok hc
  have e230 : (putS c).2 = if mayS c = true then 0 else 230 := by unfold putS; split <;> rfl
  rw [at_live, Option.bind_some, if_neg (by simp), at_bigB hc, Option.bind_some]
  by_cases b1 : bigB c = true
  · rw [if_pos b1, Option.bind_some]; rfl
  rw [if_neg b1, at_bigB hd, Option.bind_some]
  by_cases b2 : bigB d = true
  · rw [if_pos b2, Option.bind_some]; rfl
  rw [if_neg b2, at_Put hc, Option.bind_some, at_Put' hc, Option.bind_some, at_Equal2 op op, Option.bind_some, if_neg (by simp), if_neg (by simp), at_Check hc, Option.bind_some, at_May' hc, Option.bind_some,
    if_neg (by cases mayS c <;> simp), Option.bind_some, if_neg (by rw [e230]; simp), at_Said hc, Option.bind_some, at_Said' hc, Option.bind_some, at_Equal2 (said_ok2 hc) (said_ok2 hc), Option.bind_some, if_pos (by simp),
    at_Words hc, Option.bind_some, at_Words' hc, Option.bind_some, at_Equal2 (words_ok hc) (words_ok hc), Option.bind_some, if_pos (by simp), at_capsule_Same hc hd, Option.bind_some, at_ref23_Same hc hd, Option.bind_some, if_pos rfl,
    at_capsule_Same hc hc, Option.bind_some]
  have : sameS c c = true := sameS_iff.2 rfl
  simp [this]
end Go.Ax.TryP
/-! Printed by program (wires.py): the functions keep their signatures. -/
namespace Go.Ax.TryP
theorem s_octet_Same : SigOk Go.Proofs.Try.prog 32 ⟨[.sl (.int .u8), .sl (.int .u8)], [.bool], g_octet_Same⟩ := p_octet_Same_ok q_octet_Same
theorem s_law23_big : SigOk Go.Proofs.Try.prog 14 ⟨[.cat [.int .i64, .int .i64, .int .u32, .int .u32, .int .u64, .int .u64, .sl (.int .u8), .sl (.int .u8), .sl (.int .u8), .sl (.int .u8)]], [.bool], g_law23_big⟩ := p_law23_big_ok q_law23_big
theorem s_ref19_One : SigOk Go.Proofs.Try.prog 47 ⟨[.cat [.int .u64, .int .u64]], [.bool], g_ref19_One⟩ := p_ref19_One_ok q_ref19_One
theorem s_ref23_spoken : SigOk Go.Proofs.Try.prog 35 ⟨[.cat [.int .i64, .int .i64, .int .u32, .int .u32, .int .u64, .int .u64, .sl (.int .u8), .sl (.int .u8), .sl (.int .u8), .sl (.int .u8)]], [.bool], g_ref23_spoken⟩ := p_ref23_spoken_ok s_ref19_One q_ref23_spoken
theorem s_ref01_Big : SigOk Go.Proofs.Try.prog 36 ⟨[.int .u64, .int .i64], [.sl (.int .u8)], g_ref01_Big⟩ := p_ref01_Big_ok q_ref01_Big
theorem s_ref23_text : SigOk Go.Proofs.Try.prog 37 ⟨[.sl (.int .u8)], [.sl (.int .u8)], g_ref23_text⟩ := p_ref23_text_ok s_ref01_Big s_ref01_Join q_ref23_text
theorem s_ref23_Said : SigOk Go.Proofs.Try.prog 22 ⟨[.cat [.int .i64, .int .i64, .int .u32, .int .u32, .int .u64, .int .u64, .sl (.int .u8), .sl (.int .u8), .sl (.int .u8), .sl (.int .u8)]], [.sl (.int .u8)], g_ref23_Said⟩ := p_ref23_Said_ok s_ref23_spoken s_ref01_Big s_ref23_text s_ref01_Join q_ref23_Said
theorem s_ref23_worded : SigOk Go.Proofs.Try.prog 29 ⟨[.cat [.int .i64, .int .i64, .int .u32, .int .u32, .int .u64, .int .u64, .sl (.int .u8), .sl (.int .u8), .sl (.int .u8), .sl (.int .u8)]], [.bool], g_ref23_worded⟩ := p_ref23_worded_ok s_ref23_spoken q_ref23_worded
theorem s_capsule_worded : SigOk Go.Proofs.Try.prog 30 ⟨[.cat [.int .i64, .int .i64, .int .u32, .int .u32, .int .u64, .int .u64, .sl (.int .u8), .sl (.int .u8), .sl (.int .u8), .sl (.int .u8)]], [.bool], g_capsule_worded⟩ := p_capsule_worded_ok s_capsule_spoken q_capsule_worded
theorem s_ref23_May : SigOk Go.Proofs.Try.prog 15 ⟨[.cat [.int .i64, .int .i64, .int .u32, .int .u32, .int .u64, .int .u64, .sl (.int .u8), .sl (.int .u8), .sl (.int .u8), .sl (.int .u8)]], [.bool], g_ref23_May⟩ := p_ref23_May_ok s_ref23_worded q_ref23_May
theorem s_capsule_Check : SigOk Go.Proofs.Try.prog 20 ⟨[.cat [.int .i64, .int .i64, .int .u32, .int .u32, .int .u64, .int .u64, .sl (.int .u8), .sl (.int .u8), .sl (.int .u8), .sl (.int .u8)]], [.int .i64], g_capsule_Check⟩ := p_capsule_Check_ok s_capsule_worded q_capsule_Check
theorem s_capsule_inner : SigOk Go.Proofs.Try.prog 31 ⟨[.cat [.int .i64, .int .i64, .int .u32, .int .u32, .int .u64, .int .u64, .sl (.int .u8), .sl (.int .u8), .sl (.int .u8), .sl (.int .u8)]], [.sl (.int .u8)], g_capsule_inner⟩ := p_capsule_inner_ok s_capsule_said s_octet_U16 s_octet_Join q_capsule_inner
theorem s_capsule_Words : SigOk Go.Proofs.Try.prog 16 ⟨[.cat [.int .i64, .int .i64, .int .u32, .int .u32, .int .u64, .int .u64, .sl (.int .u8), .sl (.int .u8), .sl (.int .u8), .sl (.int .u8)]], [.sl (.int .u8)], g_capsule_Words⟩ := p_capsule_Words_ok s_capsule_worded s_capsule_inner s_octet_Join q_capsule_Words
theorem s_ref23_Words : SigOk Go.Proofs.Try.prog 23 ⟨[.cat [.int .i64, .int .i64, .int .u32, .int .u32, .int .u64, .int .u64, .sl (.int .u8), .sl (.int .u8), .sl (.int .u8), .sl (.int .u8)]], [.sl (.int .u8)], g_ref23_Words⟩ := p_ref23_Words_ok s_ref23_worded s_ref23_Said s_ref23_text s_ref01_Join q_ref23_Words
theorem s_capsule_Put : SigOk Go.Proofs.Try.prog 18 ⟨[.cat [.int .i64, .int .i64, .int .u32, .int .u32, .int .u64, .int .u64, .sl (.int .u8), .sl (.int .u8), .sl (.int .u8), .sl (.int .u8)]], [.sl (.int .u8), .int .i64], g_capsule_Put⟩ := p_capsule_Put_ok s_capsule_Check s_capsule_inner s_octet_Join q_capsule_Put
theorem s_ref23_Put : SigOk Go.Proofs.Try.prog 19 ⟨[.cat [.int .i64, .int .i64, .int .u32, .int .u32, .int .u64, .int .u64, .sl (.int .u8), .sl (.int .u8), .sl (.int .u8), .sl (.int .u8)]], [.sl (.int .u8), .int .i64], g_ref23_Put⟩ := p_ref23_Put_ok s_ref23_May s_ref23_Words s_ref01_Join q_ref23_Put
theorem s_capsule_Same : SigOk Go.Proofs.Try.prog 17 ⟨[.cat [.int .i64, .int .i64, .int .u32, .int .u32, .int .u64, .int .u64, .sl (.int .u8), .sl (.int .u8), .sl (.int .u8), .sl (.int .u8)], .cat [.int .i64, .int .i64, .int .u32, .int .u32, .int .u64, .int .u64, .sl (.int .u8), .sl (.int .u8), .sl (.int .u8), .sl (.int .u8)]], [.bool], g_capsule_Same⟩ := p_capsule_Same_ok s_octet_Same q_capsule_Same
theorem s_ref23_Same : SigOk Go.Proofs.Try.prog 24 ⟨[.cat [.int .i64, .int .i64, .int .u32, .int .u32, .int .u64, .int .u64, .sl (.int .u8), .sl (.int .u8), .sl (.int .u8), .sl (.int .u8)], .cat [.int .i64, .int .i64, .int .u32, .int .u32, .int .u64, .int .u64, .sl (.int .u8), .sl (.int .u8), .sl (.int .u8), .sl (.int .u8)]], [.bool], g_ref23_Same⟩ := p_ref23_Same_ok s_ref01_Equal q_ref23_Same
theorem s_law23_CapsulePuts : SigOk Go.Proofs.Try.prog 5 ⟨[.cat [.int .i64, .int .i64, .int .u32, .int .u32, .int .u64, .int .u64, .sl (.int .u8), .sl (.int .u8), .sl (.int .u8), .sl (.int .u8)], .cat [.int .i64, .int .i64, .int .u32, .int .u32, .int .u64, .int .u64, .sl (.int .u8), .sl (.int .u8), .sl (.int .u8), .sl (.int .u8)]], [.bool], g_law23_CapsulePuts⟩ := p_law23_CapsulePuts_ok s_law23_live s_law23_big s_capsule_Put s_ref23_Put s_ref01_Equal s_capsule_Check s_ref23_May s_capsule_Said s_ref23_Said s_capsule_Words s_ref23_Words s_capsule_Same s_ref23_Same q_law23_CapsulePuts
theorem s_law23_CapsuleApart : SigOk Go.Proofs.Try.prog 4 ⟨[.cat [.int .i64, .int .i64, .int .u32, .int .u32, .int .u64, .int .u64, .sl (.int .u8), .sl (.int .u8), .sl (.int .u8), .sl (.int .u8)], .cat [.int .i64, .int .i64, .int .u32, .int .u32, .int .u64, .int .u64, .sl (.int .u8), .sl (.int .u8), .sl (.int .u8), .sl (.int .u8)]], [.bool], g_law23_CapsuleApart⟩ := p_law23_CapsuleApart_ok s_law23_live s_law23_big s_ref23_May s_capsule_Words s_ref01_Equal s_capsule_Same q_law23_CapsuleApart
end Go.Ax.TryP
