/- A part of the proof: CapS, CapP, CapQ1, CapQ2, CapQ3, CapQ4, CapQ5, CapW. -/
import Derived.Test.YthnokigjmkaojaaAxC
import Derived.Test.YthnokigjmkaojaaCapT
/-! ### Capsules: what the functions answer -/
namespace Go.Ax.TryP
noncomputable def g_octet_Join : List (List Int) × Unit → Option (List Int) := Spec (ks := [.sls (.int .u8)]) (rs := [.sl (.int .u8)]) (fun x => x.1.length ≤ 1000 ∧ x.1.flatten.length ≤ 1000000) fun x => x.1.flatten
noncomputable def g_ref01_Join : List (List Int) × Unit → Option (List Int) := Spec (ks := [.sls (.int .u8)]) (rs := [.sl (.int .u8)]) (fun x => x.1.length ≤ 1000 ∧ x.1.flatten.length ≤ 1000000) fun x => x.1.flatten
noncomputable def g_ref01_Equal : List Int × List Int × Unit → Option Bool := Spec (ks := [.sl (.int .u8), .sl (.int .u8)]) (rs := [.bool]) (fun _ => True) fun x => decide (x.1 = x.2.1)
/-- A text's pieces. -/
def cutN (b : List Int) (s : Nat) : Nat → List (List Int)
  | 0 => []
  | n + 1 => cutN b s n ++ [(b.drop (n * s)).take s]
def pieces (n s : Nat) : Nat := (n + s - 1) / s
def chunkS (b : List Int) (size : Int) : List (List Int) × Int := if size < 1 ∨ 1024 < size then ([], 1) else if b.length = 0 then ([], 4) else if 256 * size < (b.length : Int) then ([], 3) else (cutN b size.toNat (pieces b.length size.toNat), 0)
noncomputable def g_capsule_Chunks : List Int × Int × Unit → Option (List (List Int) × Int) := Spec (ks := [.sl (.int .u8), .int .i64]) (rs := [.sls (.int .u8), .int .i64]) (fun x => x.1.length ≤ 1000000) fun x => chunkS x.1 x.2.1
noncomputable def g_ref23_Chunks : List Int × Int × Unit → Option (List (List Int) × Int) := Spec (ks := [.sl (.int .u8), .int .i64]) (rs := [.sls (.int .u8), .int .i64]) (fun x => x.1.length ≤ 1000000) fun x => chunkS x.1 x.2.1
def gatherS (l : List (List Int)) : List Int × Int := if l.length = 0 ∨ l.any (fun r => decide (r.length = 0)) = true then ([], 4) else if 256 < l.length ∨ l.any (fun r => decide (1024 < r.length)) = true then ([], 3) else (l.flatten, 0)
noncomputable def g_capsule_Gather : List (List Int) × Unit → Option (List Int × Int) := Spec (ks := [.sls (.int .u8)]) (rs := [.sl (.int .u8), .int .i64]) (fun x => x.1.length ≤ 1000) fun x => gatherS x.1
noncomputable def g_ref23_Gather : List (List Int) × Unit → Option (List Int × Int) := Spec (ks := [.sls (.int .u8)]) (rs := [.sl (.int .u8), .int .i64]) (fun x => x.1.length ≤ 1000) fun x => gatherS x.1
/-- A number's bytes, the highest first. -/
def bigS (n : Int) (w : Nat) : List Int := (List.range w).map fun i => n / 2 ^ (8 * (w - 1 - i)) % 256
noncomputable def g_octet_big : Int × Int × Unit → Option (List Int) := Spec (ks := [.int .u64, .int .i64]) (rs := [.sl (.int .u8)]) (fun x => 0 ≤ x.2.1 ∧ x.2.1 ≤ 8) fun x => bigS x.1 x.2.1.toNat
noncomputable def g_octet_U16 : Int × Unit → Option (List Int) := Spec (ks := [.int .u16]) (rs := [.sl (.int .u8)]) (fun _ => True) fun x => bigS x.1 2
noncomputable def g_octet_U32 : Int × Unit → Option (List Int) := Spec (ks := [.int .u32]) (rs := [.sl (.int .u8)]) (fun _ => True) fun x => bigS x.1 4
noncomputable def g_octet_U64 : Int × Unit → Option (List Int) := Spec (ks := [.int .u64]) (rs := [.sl (.int .u8)]) (fun _ => True) fun x => bigS x.1 8
def oneS (lo hi : Int) : Bool := decide (lo < hi ∧ hi ≤ 1152921504606846976)
noncomputable def g_span_one : (Int × Int × Unit) × Unit → Option Bool := Spec (ks := [.cat [.int .u64, .int .u64]]) (rs := [.bool]) (fun _ => True) fun x => oneS x.1.1 x.1.2.1
noncomputable def g_span_May : List Int × Unit → Option Bool := Spec (ks := [.sla (.int .u64) 2]) (rs := [.bool]) (fun x => x.1.length = 2) fun x => oneS (x.1.getD 0 0) (x.1.getD 1 0)
def devS (n : Int) : Bool := decide (0 ≤ n ∧ n < 16)
noncomputable def g_capsule_spoken_1 : Int × Unit → Option Bool := Spec (ks := [.int .i64]) (rs := [.bool]) (fun _ => True) fun x => devS x.1
abbrev Cp := Int × Int × Int × Int × Int × Int × List Int × List Int × List Int × List Int × Unit
def spokenS (c : Cp) : Bool := devS c.1 && (devS c.2.1 && (decide (c.1 ≠ c.2.1) && (oneS c.2.2.2.2.1 c.2.2.2.2.2.1 && decide (1 ≤ c.2.2.2.2.2.2.1.length ∧ c.2.2.2.2.2.2.1.length ≤ 68))))
def saidS (c : Cp) : List Int := [c.1 % 256, c.2.1 % 256] ++ bigS c.2.2.1 4 ++ bigS c.2.2.2.1 4 ++ bigS c.2.2.2.2.1 8 ++ bigS c.2.2.2.2.2.1 8 ++ bigS (c.2.2.2.2.2.2.1.length : Int) 2 ++ c.2.2.2.2.2.2.1
noncomputable def g_capsule_spoken : Cp × Unit → Option Bool := Spec (ks := [.cat [.int .i64, .int .i64, .int .u32, .int .u32, .int .u64, .int .u64, .sl (.int .u8), .sl (.int .u8), .sl (.int .u8), .sl (.int .u8)]]) (rs := [.bool]) (fun _ => True) fun x => spokenS x.1
noncomputable def g_capsule_said : Cp × Unit → Option (List Int) := Spec (ks := [.cat [.int .i64, .int .i64, .int .u32, .int .u32, .int .u64, .int .u64, .sl (.int .u8), .sl (.int .u8), .sl (.int .u8), .sl (.int .u8)]]) (rs := [.sl (.int .u8)]) (fun x => x.1.2.2.2.2.2.2.1.length ≤ 60000) fun x => saidS x.1
noncomputable def g_capsule_Said : Cp × Unit → Option (List Int) := Spec (ks := [.cat [.int .i64, .int .i64, .int .u32, .int .u32, .int .u64, .int .u64, .sl (.int .u8), .sl (.int .u8), .sl (.int .u8), .sl (.int .u8)]]) (rs := [.sl (.int .u8)]) (fun _ => True) fun x => if spokenS x.1 = true then saidS x.1 else []
noncomputable def g_law23_live : Unit → Option Bool := Spec (ks := []) (rs := [.bool]) (fun _ => True) fun _ => true
noncomputable def g_law23_CapsuleCuts : List Int × Int × List (List Int) × Unit → Option Bool := Spec (ks := [.sl (.int .u8), .int .i64, .sls (.int .u8)]) (rs := [.bool]) (fun _ => True) fun _ => true
end Go.Ax.TryP
/-! Printed by program (gen.py). -/
set_option linter.unusedVariables false
namespace Go.Ax.TryP
/-! livery/octet.Join -/
noncomputable def p_octet_Join_E : AE := AE.of [(5, ty5), (22, ty22), (23, ty23)] []
noncomputable def p_octet_Join_H : Hints := [(3, [0, 3, 9, 10, 11]), (9, [6, 22, 23, 24]), (2000000, [0, 3]), (2000001, [0, 3, 9, 10, 11]), (2000002, [6]), (2000003, [6, 22, 23, 24]), (3000000, [2])]
noncomputable def p_octet_Join_c : Code := (Go.Proofs.Try.f28).body.getD .skip
noncomputable def p_octet_Join_l3_S : Shape where
  h := { tmps := [.sc (.frs (.int .u8)), .any, .any, .sc (.int .i64), .any, .any, .any, .any, .any, .sc (.frs (.int .u8)), .sc (.int .i64), .sc (.int .i64), .any, .any, .any, .any, .any, .any, .any, .any, .any, .any, .any, .any, .any, .any, .any, .any, .any, .any, .any, .any, .any], mem := [] }
  ks := [.xss, .int, .xss, .int, .int]
  st := fun x => { tmps := [.one (.sc (.fr (.xss (.int .u8) x.1))), .one .any, .one .any, .one (.sc (.int .i64 x.2.1)), .one .any, .one .any, .one .any, .one .any, .one .any, .one (.sc (.fr (.xss (.int .u8) x.2.2.1))), .one (.sc (.int .i64 x.2.2.2.1)), .one (.sc (.int .i64 x.2.2.2.2.1)), .one .any, .one .any, .one .any, .one .any, .one .any, .one .any, .one .any, .one .any, .one .any, .one .any, .one .any, .one .any, .one .any, .one .any, .one .any, .one .any, .one .any, .one .any, .one .any, .one .any, .one .any], mem := [] }
noncomputable def p_octet_Join_l3_F (N : Nat) (β : Type) (x : (List (List Int) × Int × List (List Int) × Int × Int × Unit)) (kn : (List (List Int) × Int × List (List Int) × Int × Int × Unit) → Option β) (ke : ((List (List Int) × Int × Unit)) → Option β) : Option β :=
  if (x.2.2.2.2.1 < x.2.2.2.1) then
    if 0 ≤ x.2.2.2.2.1 then (
    if x.2.2.2.2.1 < ((List.length x.2.2.1 : Nat) : Int) then (
    kn (x.1, (IntKind.i64.wrap (x.2.1 + ((List.length (List.getD x.2.2.1 (x.2.2.2.2.1.toNat) []) : Nat) : Int))), x.2.2.1, x.2.2.2.1, (IntKind.i64.wrap (x.2.2.2.2.1 + (1:Int))), ())) else none) else none
  else
    ke (x.1, x.2.1, ())
noncomputable def p_octet_Join_l3_go : Go' ((List (List Int) × Int × Unit)) := fun y K => K (.exit 0) { tmps := [.one (.sc (.fr (.xss (.int .u8) y.1))), .one .any, .one .any, .one (.sc (.int .i64 y.2.1)), .one .any, .one .any, .one .any, .one .any, .one .any, .one .any, .one .any, .one .any, .one .any, .one .any, .one .any, .one .any, .one .any, .one .any, .one .any, .one .any, .one .any, .one .any, .one .any, .one .any, .one .any, .one .any, .one .any, .one .any, .one .any, .one .any, .one .any, .one .any, .one .any], mem := [] }
noncomputable def p_octet_Join_l3_L (N : Nat) : LT := upd (LT.nil) 3 (loopE p_octet_Join_l3_S N (p_octet_Join_l3_F N) p_octet_Join_l3_go)
theorem p_octet_Join_l3_ok (N : Nat) : OkAll p_octet_Join_E p_octet_Join_H N (p_octet_Join_l3_L N) (subs p_octet_Join_c) :=
  addLoop (c := theLoop 3 p_octet_Join_c) (OkAll.nil) (by kernel_rfl) (fun x => by kernel_rfl) (fun β x kn ke => by kernel_rfl)
noncomputable def p_octet_Join_l9_S : Shape where
  h := { tmps := [.any, .any, .any, .any, .any, .any, .sc (.vec 0 none 1), .any, .any, .any, .any, .any, .any, .any, .any, .any, .any, .any, .any, .any, .any, .any, .sc (.frs (.int .u8)), .sc (.int .i64), .sc (.int .i64), .any, .any, .any, .any, .any, .any, .any, .any], mem := [.live [.xs (.int .u8) none] (.own)] }
  ks := [.nat, .xss, .int, .int, .nat, .xs]
  st := fun x => { tmps := [.one .any, .one .any, .one .any, .one .any, .one .any, .one .any, .one (.sc (.vec 0 x.1 1)), .one .any, .one .any, .one .any, .one .any, .one .any, .one .any, .one .any, .one .any, .one .any, .one .any, .one .any, .one .any, .one .any, .one .any, .one .any, .one (.sc (.fr (.xss (.int .u8) x.2.1))), .one (.sc (.int .i64 x.2.2.1)), .one (.sc (.int .i64 x.2.2.2.1)), .one .any, .one .any, .one .any, .one .any, .one .any, .one .any, .one .any, .one .any], mem := [.live { segs := [.xs (.int .u8) x.2.2.2.2.1 x.2.2.2.2.2.1], own := .own }] }
noncomputable def p_octet_Join_l9_F (N : Nat) (β : Type) (x : (Nat × List (List Int) × Int × Int × Nat × List Int × Unit)) (kn : (Nat × List (List Int) × Int × Int × Nat × List Int × Unit) → Option β) (ke : ((Nat × Nat × List Int × Unit)) → Option β) : Option β :=
  if (x.2.2.2.1 < x.2.2.1) then
    if 0 ≤ x.2.2.2.1 then (
    if x.2.2.2.1 < ((List.length x.2.1 : Nat) : Int) then (
    if (x.1 + (List.length (List.getD x.2.1 (x.2.2.2.1.toNat) []))) * 1 ≤ 140737488355328 then (
    kn ((x.1 + (List.length (List.getD x.2.1 (x.2.2.2.1.toNat) []))), x.2.1, x.2.2.1, (IntKind.i64.wrap (x.2.2.2.1 + (1:Int))), (x.2.2.2.2.1 + (List.length (List.getD x.2.1 (x.2.2.2.1.toNat) []))), (x.2.2.2.2.2.1 ++ (List.getD x.2.1 (x.2.2.2.1.toNat) [])), ())) else none) else none) else none
  else
    ke (x.1, x.2.2.2.2.1, x.2.2.2.2.2.1, ())
noncomputable def p_octet_Join_l9_go : Go' ((Nat × Nat × List Int × Unit)) := fun y K => K (.exit 2) { tmps := [.one .any, .one .any, .one .any, .one .any, .one .any, .one .any, .one (.sc (.vec 0 y.1 1)), .one .any, .one .any, .one .any, .one .any, .one .any, .one .any, .one .any, .one .any, .one .any, .one .any, .one .any, .one .any, .one .any, .one .any, .one .any, .one .any, .one .any, .one .any, .one .any, .one .any, .one .any, .one .any, .one .any, .one .any, .one .any, .one .any], mem := [.live { segs := [.xs (.int .u8) y.2.1 y.2.2.1], own := .own }] }
noncomputable def p_octet_Join_l9_L (N : Nat) : LT := upd (p_octet_Join_l3_L N) 9 (loopE p_octet_Join_l9_S N (p_octet_Join_l9_F N) p_octet_Join_l9_go)
theorem p_octet_Join_l9_ok (N : Nat) : OkAll p_octet_Join_E p_octet_Join_H N (p_octet_Join_l9_L N) (subs p_octet_Join_c) :=
  addLoop (c := theLoop 9 p_octet_Join_c) (p_octet_Join_l3_ok N) (by kernel_rfl) (fun x => by kernel_rfl) (fun β x kn ke => by kernel_rfl)
abbrev p_octet_Join_ks : List Kd := [.sls (.int .u8)]
abbrev p_octet_Join_rs : List Kd := [.sl (.int .u8)]
noncomputable def p_octet_Join (N : Nat) (x : List (List Int) × Unit) : Option (List Int) :=
  iter (p_octet_Join_l3_F N) N (x.1, (0:Int), x.1, ((List.length x.1 : Nat) : Int), (0:Int), ()) fun y1 => (
  if 0 ≤ (0:Int) then (
  if (0:Int) ≤ y1.2.1 then (
  if y1.2.1 * 1 ≤ 281474976710656 then (
  iter (p_octet_Join_l9_F N) N (0, y1.1, ((List.length y1.1 : Nat) : Int), (0:Int), 0, (List.replicate 0 0), ()) fun y2 => (
  some y2.2.2.1)) else none) else none) else none)
theorem p_octet_Join_eq (N : Nat) (x : Ds [.sls (.int .u8)]) : funL p_octet_Join_E p_octet_Join_H (p_octet_Join_l9_L N) N Go.Proofs.Try.f28 p_octet_Join_c [.sls (.int .u8)] [.sl (.int .u8)] x = p_octet_Join N x := by kernel_rfl
theorem p_octet_Join_Eok : p_octet_Join_E.Ok Go.Proofs.Try.prog := AE.of_ok (all_cons ty5_ok (all_cons ty22_ok (all_cons ty23_ok all_nil))) all_nil
theorem p_octet_Join_ok {g : Ds [.sls (.int .u8)] → Option (Rs [.sl (.int .u8)])} (hg : ∀ x r, g x = some r → ∃ N, p_octet_Join N x = some r) : SigOk Go.Proofs.Try.prog 28 ⟨[.sls (.int .u8)], [.sl (.int .u8)], g⟩ :=
  fun_of (E := p_octet_Join_E) (H := p_octet_Join_H) (L := fun N => p_octet_Join_l9_L N) (c := p_octet_Join_c) (ks := p_octet_Join_ks) (rs := p_octet_Join_rs) (F := p_octet_Join) (p_octet_Join_Eok) mix Go.Proofs.Try.func28 (by kernel_rfl) (fun N => p_octet_Join_l9_ok N) p_octet_Join_eq hg

/-! livery/liveryref01.Join -/
noncomputable def p_ref01_Join_E : AE := AE.of [(5, ty5), (22, ty22), (23, ty23)] []
noncomputable def p_ref01_Join_H : Hints := [(3, [3, 7, 8, 9]), (2000000, [3]), (2000001, [3, 7, 8, 9]), (3000000, [2])]
noncomputable def p_ref01_Join_c : Code := (Go.Proofs.Try.f25).body.getD .skip
noncomputable def p_ref01_Join_l3_S : Shape where
  h := { tmps := [.any, .any, .any, .sc (.vec 0 none 1), .any, .any, .any, .sc (.frs (.int .u8)), .sc (.int .i64), .sc (.int .i64), .any, .any, .any, .any, .any, .any, .any, .any], mem := [.live [.xs (.int .u8) none] (.own)] }
  ks := [.nat, .xss, .int, .int, .nat, .xs]
  st := fun x => { tmps := [.one .any, .one .any, .one .any, .one (.sc (.vec 0 x.1 1)), .one .any, .one .any, .one .any, .one (.sc (.fr (.xss (.int .u8) x.2.1))), .one (.sc (.int .i64 x.2.2.1)), .one (.sc (.int .i64 x.2.2.2.1)), .one .any, .one .any, .one .any, .one .any, .one .any, .one .any, .one .any, .one .any], mem := [.live { segs := [.xs (.int .u8) x.2.2.2.2.1 x.2.2.2.2.2.1], own := .own }] }
noncomputable def p_ref01_Join_l3_F (N : Nat) (β : Type) (x : (Nat × List (List Int) × Int × Int × Nat × List Int × Unit)) (kn : (Nat × List (List Int) × Int × Int × Nat × List Int × Unit) → Option β) (ke : ((Nat × Nat × List Int × Unit)) → Option β) : Option β :=
  if (x.2.2.2.1 < x.2.2.1) then
    if 0 ≤ x.2.2.2.1 then (
    if x.2.2.2.1 < ((List.length x.2.1 : Nat) : Int) then (
    if (x.1 + (List.length (List.getD x.2.1 (x.2.2.2.1.toNat) []))) * 1 ≤ 140737488355328 then (
    kn ((x.1 + (List.length (List.getD x.2.1 (x.2.2.2.1.toNat) []))), x.2.1, x.2.2.1, (IntKind.i64.wrap (x.2.2.2.1 + (1:Int))), (x.2.2.2.2.1 + (List.length (List.getD x.2.1 (x.2.2.2.1.toNat) []))), (x.2.2.2.2.2.1 ++ (List.getD x.2.1 (x.2.2.2.1.toNat) [])), ())) else none) else none) else none
  else
    ke (x.1, x.2.2.2.2.1, x.2.2.2.2.2.1, ())
noncomputable def p_ref01_Join_l3_go : Go' ((Nat × Nat × List Int × Unit)) := fun y K => K (.exit 0) { tmps := [.one .any, .one .any, .one .any, .one (.sc (.vec 0 y.1 1)), .one .any, .one .any, .one .any, .one .any, .one .any, .one .any, .one .any, .one .any, .one .any, .one .any, .one .any, .one .any, .one .any, .one .any], mem := [.live { segs := [.xs (.int .u8) y.2.1 y.2.2.1], own := .own }] }
noncomputable def p_ref01_Join_l3_L (N : Nat) : LT := upd (LT.nil) 3 (loopE p_ref01_Join_l3_S N (p_ref01_Join_l3_F N) p_ref01_Join_l3_go)
theorem p_ref01_Join_l3_ok (N : Nat) : OkAll p_ref01_Join_E p_ref01_Join_H N (p_ref01_Join_l3_L N) (subs p_ref01_Join_c) :=
  addLoop (c := theLoop 3 p_ref01_Join_c) (OkAll.nil) (by kernel_rfl) (fun x => by kernel_rfl) (fun β x kn ke => by kernel_rfl)
abbrev p_ref01_Join_ks : List Kd := [.sls (.int .u8)]
abbrev p_ref01_Join_rs : List Kd := [.sl (.int .u8)]
noncomputable def p_ref01_Join (N : Nat) (x : List (List Int) × Unit) : Option (List Int) :=
  iter (p_ref01_Join_l3_F N) N (0, x.1, ((List.length x.1 : Nat) : Int), (0:Int), 0, (List.replicate 0 0), ()) fun y1 => (
  some y1.2.2.1)
theorem p_ref01_Join_eq (N : Nat) (x : Ds [.sls (.int .u8)]) : funL p_ref01_Join_E p_ref01_Join_H (p_ref01_Join_l3_L N) N Go.Proofs.Try.f25 p_ref01_Join_c [.sls (.int .u8)] [.sl (.int .u8)] x = p_ref01_Join N x := by kernel_rfl
theorem p_ref01_Join_Eok : p_ref01_Join_E.Ok Go.Proofs.Try.prog := AE.of_ok (all_cons ty5_ok (all_cons ty22_ok (all_cons ty23_ok all_nil))) all_nil
theorem p_ref01_Join_ok {g : Ds [.sls (.int .u8)] → Option (Rs [.sl (.int .u8)])} (hg : ∀ x r, g x = some r → ∃ N, p_ref01_Join N x = some r) : SigOk Go.Proofs.Try.prog 25 ⟨[.sls (.int .u8)], [.sl (.int .u8)], g⟩ :=
  fun_of (E := p_ref01_Join_E) (H := p_ref01_Join_H) (L := fun N => p_ref01_Join_l3_L N) (c := p_ref01_Join_c) (ks := p_ref01_Join_ks) (rs := p_ref01_Join_rs) (F := p_ref01_Join) (p_ref01_Join_Eok) mix Go.Proofs.Try.func25 (by kernel_rfl) (fun N => p_ref01_Join_l3_ok N) p_ref01_Join_eq hg

/-! livery/liveryref01.Equal -/
noncomputable def p_ref01_Equal_E : AE := AE.of [(5, ty5), (9, ty9), (22, ty22)] []
noncomputable def p_ref01_Equal_H : Hints := [(3000000, [4])]
noncomputable def p_ref01_Equal_c : Code := (Go.Proofs.Try.f11).body.getD .skip
abbrev p_ref01_Equal_ks : List Kd := [.sl (.int .u8), .sl (.int .u8)]
abbrev p_ref01_Equal_rs : List Kd := [.bool]
noncomputable def p_ref01_Equal (N : Nat) (x : List Int × List Int × Unit) : Option (Bool) :=
  some (decide ((strOfNums x.1) = (strOfNums x.2.1)))
theorem p_ref01_Equal_eq (N : Nat) (x : Ds [.sl (.int .u8), .sl (.int .u8)]) : funL p_ref01_Equal_E p_ref01_Equal_H (LT.nil) N Go.Proofs.Try.f11 p_ref01_Equal_c [.sl (.int .u8), .sl (.int .u8)] [.bool] x = p_ref01_Equal N x := by kernel_rfl
theorem p_ref01_Equal_Eok : p_ref01_Equal_E.Ok Go.Proofs.Try.prog := AE.of_ok (all_cons ty5_ok (all_cons ty9_ok (all_cons ty22_ok all_nil))) all_nil
theorem p_ref01_Equal_ok {g : Ds [.sl (.int .u8), .sl (.int .u8)] → Option (Rs [.bool])} (hg : ∀ x r, g x = some r → ∃ N, p_ref01_Equal N x = some r) : SigOk Go.Proofs.Try.prog 11 ⟨[.sl (.int .u8), .sl (.int .u8)], [.bool], g⟩ :=
  fun_of (E := p_ref01_Equal_E) (H := p_ref01_Equal_H) (L := fun N => LT.nil) (c := p_ref01_Equal_c) (ks := p_ref01_Equal_ks) (rs := p_ref01_Equal_rs) (F := p_ref01_Equal) (p_ref01_Equal_Eok) mix Go.Proofs.Try.func11 (by kernel_rfl) (fun N => OkAll.nil) p_ref01_Equal_eq hg

/-! livery/capsule.Chunks -/
noncomputable def p_capsule_Chunks_E : AE := AE.of [(5, ty5), (22, ty22), (23, ty23)] [(28, ⟨[.sls (.int .u8)], [.sl (.int .u8)], g_octet_Join⟩)]
noncomputable def p_capsule_Chunks_H : Hints := [(9, [0, 1, 6, 7]), (2000000, [0, 1]), (2000001, [6]), (2000002, [0, 1, 6, 7]), (3000000, [4, 5]), (7000009, [6, 0])]
noncomputable def p_capsule_Chunks_c : Code := (Go.Proofs.Try.f9).body.getD .skip
noncomputable def p_capsule_Chunks_l9_S : Shape where
  h := { tmps := [.sc (.vec 0 none 1), .sc (.int .i64), .any, .any, .any, .any, .sc (.vec 1 none 1), .sc (.int .i64), .any, .any, .any, .any, .any, .any, .any, .any, .any, .any, .any, .any, .any, .any, .any, .any, .any, .any, .any, .any, .any, .any, .any, .any, .any, .any, .any, .any, .any, .any, .any, .any, .any, .any, .any, .any, .any, .any, .any, .any], mem := [.live [.xs (.int .u8) none] (.ro), .live [.rw (.int .u8)] (.own)] }
  ks := [.nat, .int, .nat, .int, .nat, .xs, .xss]
  st := fun x => { tmps := [.one (.sc (.vec 0 x.1 1)), .one (.sc (.int .i64 x.2.1)), .one .any, .one .any, .one .any, .one .any, .one (.sc (.vec 1 x.2.2.1 1)), .one (.sc (.int .i64 x.2.2.2.1)), .one .any, .one .any, .one .any, .one .any, .one .any, .one .any, .one .any, .one .any, .one .any, .one .any, .one .any, .one .any, .one .any, .one .any, .one .any, .one .any, .one .any, .one .any, .one .any, .one .any, .one .any, .one .any, .one .any, .one .any, .one .any, .one .any, .one .any, .one .any, .one .any, .one .any, .one .any, .one .any, .one .any, .one .any, .one .any, .one .any, .one .any, .one .any, .one .any, .one .any], mem := [.live { segs := [.xs (.int .u8) x.2.2.2.2.1 x.2.2.2.2.2.1], own := .ro }, .live { segs := [.rw (.int .u8) x.2.2.2.2.2.2.1], own := .own }] }
noncomputable def p_capsule_Chunks_l9_F (N : Nat) (β : Type) (x : (Nat × Int × Nat × Int × Nat × List Int × List (List Int) × Unit)) (kn : (Nat × Int × Nat × Int × Nat × List Int × List (List Int) × Unit) → Option β) (ke : ((Nat × List (List Int) × Unit)) → Option β) : Option β :=
  if (x.2.2.2.1 < ((x.1 : Nat) : Int)) then
    if 0 ≤ (if ((x.1 : Nat) : Int) < (IntKind.i64.wrap (x.2.2.2.1 + x.2.1)) then ((x.1 : Nat) : Int) else (IntKind.i64.wrap (x.2.2.2.1 + x.2.1))) then (
    if (if ((x.1 : Nat) : Int) < (IntKind.i64.wrap (x.2.2.2.1 + x.2.1)) then ((x.1 : Nat) : Int) else (IntKind.i64.wrap (x.2.2.2.1 + x.2.1))) ≤ ((x.1 : Nat) : Int) then (
    if 0 ≤ x.2.2.2.1 then (
    if x.2.2.2.1 ≤ ((((if ((x.1 : Nat) : Int) < (IntKind.i64.wrap (x.2.2.2.1 + x.2.1)) then ((x.1 : Nat) : Int) else (IntKind.i64.wrap (x.2.2.2.1 + x.2.1))).toNat) : Nat) : Int) then (
    (g_octet_Join ([(List.take (subN ((if ((x.1 : Nat) : Int) < (IntKind.i64.wrap (x.2.2.2.1 + x.2.1)) then ((x.1 : Nat) : Int) else (IntKind.i64.wrap (x.2.2.2.1 + x.2.1))).toNat) (x.2.2.2.1.toNat)) (List.drop (x.2.2.2.1.toNat) x.2.2.2.2.2.1))], ())).bind fun r1 => (
    if (x.2.2.1 + 1) * 24 ≤ 140737488355328 then (
    kn (x.1, x.2.1, (x.2.2.1 + 1), (IntKind.i64.wrap (x.2.2.2.1 + x.2.1)), x.2.2.2.2.1, x.2.2.2.2.2.1, (x.2.2.2.2.2.2.1 ++ [r1]), ())) else none)) else none) else none) else none) else none
  else
    ke (x.2.2.1, x.2.2.2.2.2.2.1, ())
noncomputable def p_capsule_Chunks_l9_go : Go' ((Nat × List (List Int) × Unit)) := fun y K => K (.exit 1) { tmps := [.one .any, .one .any, .one .any, .one .any, .one .any, .one .any, .one (.sc (.vec 0 y.1 1)), .one .any, .one .any, .one .any, .one .any, .one .any, .one .any, .one .any, .one .any, .one .any, .one .any, .one .any, .one .any, .one .any, .one .any, .one .any, .one .any, .one .any, .one .any, .one .any, .one .any, .one .any, .one .any, .one .any, .one .any, .one .any, .one .any, .one .any, .one .any, .one .any, .one .any, .one .any, .one .any, .one .any, .one .any, .one .any, .one .any, .one .any, .one .any, .one .any, .one .any, .one .any], mem := [.live { segs := [.rw (.int .u8) y.2.1], own := .own }] }
noncomputable def p_capsule_Chunks_l9_L (N : Nat) : LT := upd (LT.nil) 9 (loopE p_capsule_Chunks_l9_S N (p_capsule_Chunks_l9_F N) p_capsule_Chunks_l9_go)
theorem p_capsule_Chunks_l9_ok (N : Nat) : OkAll p_capsule_Chunks_E p_capsule_Chunks_H N (p_capsule_Chunks_l9_L N) (subs p_capsule_Chunks_c) :=
  addLoop (c := theLoop 9 p_capsule_Chunks_c) (OkAll.nil) (by kernel_rfl) (fun x => by kernel_rfl) (fun β x kn ke => by kernel_rfl)
abbrev p_capsule_Chunks_ks : List Kd := [.sl (.int .u8), .int .i64]
abbrev p_capsule_Chunks_rs : List Kd := [.sls (.int .u8), .int .i64]
noncomputable def p_capsule_Chunks (N : Nat) (x : List Int × Int × Unit) : Option (List (List Int) × Int) :=
  if (x.2.1 < (1:Int)) then
    some ([], (1:Int))
  else
    if (x.2.1 > (1024:Int)) then
      some ([], (1:Int))
    else
      if ((((List.length x.1) : Nat) : Int) = (0:Int)) then
        some ([], (4:Int))
      else
        if x.2.1 = 0 then none else (
        if ((IntKind.i64.wrap (Int.tdiv (IntKind.i64.wrap ((((List.length x.1) : Nat) : Int) - (1:Int))) x.2.1)) ≥ (256:Int)) then
          some ([], (3:Int))
        else
          iter (p_capsule_Chunks_l9_F N) N ((List.length x.1), x.2.1, 0, (0:Int), (List.length x.1), x.1, [], ()) fun y2 => (
          some (y2.2.1, (0:Int))))
theorem p_capsule_Chunks_eq (N : Nat) (x : Ds [.sl (.int .u8), .int .i64]) : funL p_capsule_Chunks_E p_capsule_Chunks_H (p_capsule_Chunks_l9_L N) N Go.Proofs.Try.f9 p_capsule_Chunks_c [.sl (.int .u8), .int .i64] [.sls (.int .u8), .int .i64] x = p_capsule_Chunks N x := by kernel_rfl
theorem p_capsule_Chunks_Eok (he_octet_Join : SigOk Go.Proofs.Try.prog 28 ⟨[.sls (.int .u8)], [.sl (.int .u8)], g_octet_Join⟩) : p_capsule_Chunks_E.Ok Go.Proofs.Try.prog := AE.of_ok (all_cons ty5_ok (all_cons ty22_ok (all_cons ty23_ok all_nil))) (all_cons ⟨he_octet_Join, enters_octet_Join⟩ all_nil)
theorem p_capsule_Chunks_ok (he_octet_Join : SigOk Go.Proofs.Try.prog 28 ⟨[.sls (.int .u8)], [.sl (.int .u8)], g_octet_Join⟩) {g : Ds [.sl (.int .u8), .int .i64] → Option (Rs [.sls (.int .u8), .int .i64])} (hg : ∀ x r, g x = some r → ∃ N, p_capsule_Chunks N x = some r) : SigOk Go.Proofs.Try.prog 9 ⟨[.sl (.int .u8), .int .i64], [.sls (.int .u8), .int .i64], g⟩ :=
  fun_of (E := p_capsule_Chunks_E) (H := p_capsule_Chunks_H) (L := fun N => p_capsule_Chunks_l9_L N) (c := p_capsule_Chunks_c) (ks := p_capsule_Chunks_ks) (rs := p_capsule_Chunks_rs) (F := p_capsule_Chunks) (p_capsule_Chunks_Eok he_octet_Join) mix Go.Proofs.Try.func9 (by kernel_rfl) (fun N => p_capsule_Chunks_l9_ok N) p_capsule_Chunks_eq hg

/-! livery/liveryref23.Chunks -/
noncomputable def p_ref23_Chunks_E : AE := AE.of [(5, ty5), (22, ty22), (23, ty23)] [(25, ⟨[.sls (.int .u8)], [.sl (.int .u8)], g_ref01_Join⟩)]
noncomputable def p_ref23_Chunks_H : Hints := [(9, [0, 1, 6, 7]), (2000000, [6]), (2000001, [0, 1, 6, 7]), (3000000, [4, 5])]
noncomputable def p_ref23_Chunks_c : Code := (Go.Proofs.Try.f10).body.getD .skip
noncomputable def p_ref23_Chunks_l9_S : Shape where
  h := { tmps := [.sc (.vec 0 none 1), .sc (.int .i64), .any, .any, .any, .any, .sc (.vec 1 none 1), .sc (.int .i64), .any, .any, .any, .any, .any, .any, .any, .any, .any, .any, .any, .any, .any, .any, .any, .any, .any, .any, .any, .any, .any, .any, .any, .any, .any, .any, .any, .any, .any, .any, .any, .any, .any, .any, .any, .any, .any], mem := [.live [.xs (.int .u8) none] (.ro), .live [.rw (.int .u8)] (.own)] }
  ks := [.nat, .int, .nat, .int, .nat, .xs, .xss]
  st := fun x => { tmps := [.one (.sc (.vec 0 x.1 1)), .one (.sc (.int .i64 x.2.1)), .one .any, .one .any, .one .any, .one .any, .one (.sc (.vec 1 x.2.2.1 1)), .one (.sc (.int .i64 x.2.2.2.1)), .one .any, .one .any, .one .any, .one .any, .one .any, .one .any, .one .any, .one .any, .one .any, .one .any, .one .any, .one .any, .one .any, .one .any, .one .any, .one .any, .one .any, .one .any, .one .any, .one .any, .one .any, .one .any, .one .any, .one .any, .one .any, .one .any, .one .any, .one .any, .one .any, .one .any, .one .any, .one .any, .one .any, .one .any, .one .any, .one .any, .one .any], mem := [.live { segs := [.xs (.int .u8) x.2.2.2.2.1 x.2.2.2.2.2.1], own := .ro }, .live { segs := [.rw (.int .u8) x.2.2.2.2.2.2.1], own := .own }] }
noncomputable def p_ref23_Chunks_l9_F (N : Nat) (β : Type) (x : (Nat × Int × Nat × Int × Nat × List Int × List (List Int) × Unit)) (kn : (Nat × Int × Nat × Int × Nat × List Int × List (List Int) × Unit) → Option β) (ke : ((Nat × List (List Int) × Unit)) → Option β) : Option β :=
  if (x.2.2.2.1 < ((x.1 : Nat) : Int)) then
    if 0 ≤ (if ((x.1 : Nat) : Int) < (IntKind.i64.wrap (x.2.2.2.1 + x.2.1)) then ((x.1 : Nat) : Int) else (IntKind.i64.wrap (x.2.2.2.1 + x.2.1))) then (
    if (if ((x.1 : Nat) : Int) < (IntKind.i64.wrap (x.2.2.2.1 + x.2.1)) then ((x.1 : Nat) : Int) else (IntKind.i64.wrap (x.2.2.2.1 + x.2.1))) ≤ ((x.1 : Nat) : Int) then (
    if 0 ≤ x.2.2.2.1 then (
    if x.2.2.2.1 ≤ ((((if ((x.1 : Nat) : Int) < (IntKind.i64.wrap (x.2.2.2.1 + x.2.1)) then ((x.1 : Nat) : Int) else (IntKind.i64.wrap (x.2.2.2.1 + x.2.1))).toNat) : Nat) : Int) then (
    (g_ref01_Join ([(List.take (subN ((if ((x.1 : Nat) : Int) < (IntKind.i64.wrap (x.2.2.2.1 + x.2.1)) then ((x.1 : Nat) : Int) else (IntKind.i64.wrap (x.2.2.2.1 + x.2.1))).toNat) (x.2.2.2.1.toNat)) (List.drop (x.2.2.2.1.toNat) x.2.2.2.2.2.1))], ())).bind fun r1 => (
    if (x.2.2.1 + 1) * 24 ≤ 140737488355328 then (
    kn (x.1, x.2.1, (x.2.2.1 + 1), (IntKind.i64.wrap (x.2.2.2.1 + x.2.1)), x.2.2.2.2.1, x.2.2.2.2.2.1, (x.2.2.2.2.2.2.1 ++ [r1]), ())) else none)) else none) else none) else none) else none
  else
    ke (x.2.2.1, x.2.2.2.2.2.2.1, ())
noncomputable def p_ref23_Chunks_l9_go : Go' ((Nat × List (List Int) × Unit)) := fun y K => K (.exit 0) { tmps := [.one .any, .one .any, .one .any, .one .any, .one .any, .one .any, .one (.sc (.vec 0 y.1 1)), .one .any, .one .any, .one .any, .one .any, .one .any, .one .any, .one .any, .one .any, .one .any, .one .any, .one .any, .one .any, .one .any, .one .any, .one .any, .one .any, .one .any, .one .any, .one .any, .one .any, .one .any, .one .any, .one .any, .one .any, .one .any, .one .any, .one .any, .one .any, .one .any, .one .any, .one .any, .one .any, .one .any, .one .any, .one .any, .one .any, .one .any, .one .any], mem := [.live { segs := [.rw (.int .u8) y.2.1], own := .own }] }
noncomputable def p_ref23_Chunks_l9_L (N : Nat) : LT := upd (LT.nil) 9 (loopE p_ref23_Chunks_l9_S N (p_ref23_Chunks_l9_F N) p_ref23_Chunks_l9_go)
theorem p_ref23_Chunks_l9_ok (N : Nat) : OkAll p_ref23_Chunks_E p_ref23_Chunks_H N (p_ref23_Chunks_l9_L N) (subs p_ref23_Chunks_c) :=
  addLoop (c := theLoop 9 p_ref23_Chunks_c) (OkAll.nil) (by kernel_rfl) (fun x => by kernel_rfl) (fun β x kn ke => by kernel_rfl)
abbrev p_ref23_Chunks_ks : List Kd := [.sl (.int .u8), .int .i64]
abbrev p_ref23_Chunks_rs : List Kd := [.sls (.int .u8), .int .i64]
noncomputable def p_ref23_Chunks (N : Nat) (x : List Int × Int × Unit) : Option (List (List Int) × Int) :=
  if (x.2.1 < (1:Int)) then
    some ([], (1:Int))
  else
    if (x.2.1 > (1024:Int)) then
      some ([], (1:Int))
    else
      if ((((List.length x.1) : Nat) : Int) = (0:Int)) then
        some ([], (4:Int))
      else
        if ((((List.length x.1) : Nat) : Int) > (IntKind.i64.wrap ((256:Int) * x.2.1))) then
          some ([], (3:Int))
        else
          iter (p_ref23_Chunks_l9_F N) N ((List.length x.1), x.2.1, 0, (0:Int), (List.length x.1), x.1, [], ()) fun y2 => (
          some (y2.2.1, (0:Int)))
theorem p_ref23_Chunks_eq (N : Nat) (x : Ds [.sl (.int .u8), .int .i64]) : funL p_ref23_Chunks_E p_ref23_Chunks_H (p_ref23_Chunks_l9_L N) N Go.Proofs.Try.f10 p_ref23_Chunks_c [.sl (.int .u8), .int .i64] [.sls (.int .u8), .int .i64] x = p_ref23_Chunks N x := by kernel_rfl
theorem p_ref23_Chunks_Eok (he_ref01_Join : SigOk Go.Proofs.Try.prog 25 ⟨[.sls (.int .u8)], [.sl (.int .u8)], g_ref01_Join⟩) : p_ref23_Chunks_E.Ok Go.Proofs.Try.prog := AE.of_ok (all_cons ty5_ok (all_cons ty22_ok (all_cons ty23_ok all_nil))) (all_cons ⟨he_ref01_Join, enters_ref01_Join⟩ all_nil)
theorem p_ref23_Chunks_ok (he_ref01_Join : SigOk Go.Proofs.Try.prog 25 ⟨[.sls (.int .u8)], [.sl (.int .u8)], g_ref01_Join⟩) {g : Ds [.sl (.int .u8), .int .i64] → Option (Rs [.sls (.int .u8), .int .i64])} (hg : ∀ x r, g x = some r → ∃ N, p_ref23_Chunks N x = some r) : SigOk Go.Proofs.Try.prog 10 ⟨[.sl (.int .u8), .int .i64], [.sls (.int .u8), .int .i64], g⟩ :=
  fun_of (E := p_ref23_Chunks_E) (H := p_ref23_Chunks_H) (L := fun N => p_ref23_Chunks_l9_L N) (c := p_ref23_Chunks_c) (ks := p_ref23_Chunks_ks) (rs := p_ref23_Chunks_rs) (F := p_ref23_Chunks) (p_ref23_Chunks_Eok he_ref01_Join) mix Go.Proofs.Try.func10 (by kernel_rfl) (fun N => p_ref23_Chunks_l9_ok N) p_ref23_Chunks_eq hg

/-! livery/capsule.Gather -/
noncomputable def p_capsule_Gather_E : AE := AE.of [(22, ty22), (23, ty23)] [(28, ⟨[.sls (.int .u8)], [.sl (.int .u8)], g_octet_Join⟩)]
noncomputable def p_capsule_Gather_H : Hints := [(6, [0, 4, 5, 14, 15, 16, 999999]), (2000000, [0, 4, 5, 999999]), (2000001, [0, 4, 5, 14, 15, 16]), (2000002, [0]), (3000000, [2, 3])]
noncomputable def p_capsule_Gather_c : Code := (Go.Proofs.Try.f12).body.getD .skip
noncomputable def p_capsule_Gather_l6_S : Shape where
  h := { tmps := [.sc (.frs (.int .u8)), .any, .any, .any, .sc (.int .i64), .sc (.bool), .any, .any, .any, .any, .any, .any, .any, .any, .sc (.frs (.int .u8)), .sc (.int .i64), .sc (.int .i64), .any, .any, .any, .any, .any, .any, .any, .any, .any, .any, .any, .any, .any, .any, .any, .any, .any, .any, .any, .any, .any], mem := [] }
  ks := [.xss, .int, .bool, .xss, .int, .int]
  st := fun x => { tmps := [.one (.sc (.fr (.xss (.int .u8) x.1))), .one .any, .one .any, .one .any, .one (.sc (.int .i64 x.2.1)), .one (.sc (.known x.2.2.1)), .one .any, .one .any, .one .any, .one .any, .one .any, .one .any, .one .any, .one .any, .one (.sc (.fr (.xss (.int .u8) x.2.2.2.1))), .one (.sc (.int .i64 x.2.2.2.2.1)), .one (.sc (.int .i64 x.2.2.2.2.2.1)), .one .any, .one .any, .one .any, .one .any, .one .any, .one .any, .one .any, .one .any, .one .any, .one .any, .one .any, .one .any, .one .any, .one .any, .one .any, .one .any, .one .any, .one .any, .one .any, .one .any, .one .any], mem := [] }
noncomputable def p_capsule_Gather_l6_F (N : Nat) (β : Type) (x : (List (List Int) × Int × Bool × List (List Int) × Int × Int × Unit)) (kn : (List (List Int) × Int × Bool × List (List Int) × Int × Int × Unit) → Option β) (ke : ((List (List Int) × Int × Bool × Unit)) → Option β) : Option β :=
  if (x.2.2.2.2.2.1 < x.2.2.2.2.1) then
    if 0 ≤ x.2.2.2.2.2.1 then (
    if x.2.2.2.2.2.1 < ((List.length x.2.2.2.1 : Nat) : Int) then (
    if (((List.length (List.getD x.2.2.2.1 (x.2.2.2.2.2.1.toNat) []) : Nat) : Int) = (0:Int)) then
      if (x.2.2.1 = true) then
        kn (x.1, (4:Int), true, x.2.2.2.1, x.2.2.2.2.1, (IntKind.i64.wrap (x.2.2.2.2.2.1 + (1:Int))), ())
      else
        kn (x.1, (4:Int), (decide (((List.length (List.getD x.2.2.2.1 (x.2.2.2.2.2.1.toNat) []) : Nat) : Int) > (1024:Int))), x.2.2.2.1, x.2.2.2.2.1, (IntKind.i64.wrap (x.2.2.2.2.2.1 + (1:Int))), ())
    else
      if (x.2.2.1 = true) then
        kn (x.1, x.2.1, true, x.2.2.2.1, x.2.2.2.2.1, (IntKind.i64.wrap (x.2.2.2.2.2.1 + (1:Int))), ())
      else
        kn (x.1, x.2.1, (decide (((List.length (List.getD x.2.2.2.1 (x.2.2.2.2.2.1.toNat) []) : Nat) : Int) > (1024:Int))), x.2.2.2.1, x.2.2.2.2.1, (IntKind.i64.wrap (x.2.2.2.2.2.1 + (1:Int))), ())) else none) else none
  else
    ke (x.1, x.2.1, (decide (x.2.2.1 = true)), ())
noncomputable def p_capsule_Gather_l6_go : Go' ((List (List Int) × Int × Bool × Unit)) := fun y K => K (.exit 0) { tmps := [.one (.sc (.fr (.xss (.int .u8) y.1))), .one .any, .one .any, .one .any, .one (.sc (.int .i64 y.2.1)), .one (.sc (.known y.2.2.1)), .one .any, .one .any, .one .any, .one .any, .one .any, .one .any, .one .any, .one .any, .one .any, .one .any, .one .any, .one .any, .one .any, .one .any, .one .any, .one .any, .one .any, .one .any, .one .any, .one .any, .one .any, .one .any, .one .any, .one .any, .one .any, .one .any, .one .any, .one .any, .one .any, .one .any, .one .any, .one .any], mem := [] }
noncomputable def p_capsule_Gather_l6_L (N : Nat) : LT := upd (LT.nil) 6 (loopE p_capsule_Gather_l6_S N (p_capsule_Gather_l6_F N) p_capsule_Gather_l6_go)
theorem p_capsule_Gather_l6_ok (N : Nat) : OkAll p_capsule_Gather_E p_capsule_Gather_H N (p_capsule_Gather_l6_L N) (subs p_capsule_Gather_c) :=
  addLoop (c := theLoop 6 p_capsule_Gather_c) (OkAll.nil) (by kernel_rfl) (fun x => by kernel_rfl) (fun β x kn ke => by kernel_rfl)
abbrev p_capsule_Gather_ks : List Kd := [.sls (.int .u8)]
abbrev p_capsule_Gather_rs : List Kd := [.sl (.int .u8), .int .i64]
noncomputable def p_capsule_Gather (N : Nat) (x : List (List Int) × Unit) : Option (List Int × Int) :=
  if (((List.length x.1 : Nat) : Int) = (0:Int)) then
    iter (p_capsule_Gather_l6_F N) N (x.1, (4:Int), (decide (((List.length x.1 : Nat) : Int) > (256:Int))), x.1, ((List.length x.1 : Nat) : Int), (0:Int), ()) fun y1 => (
    if (y1.2.1 ≠ (0:Int)) then
      some ([], y1.2.1)
    else
      (match y1.2.2.1 with
      | true => (
        some ([], (3:Int)))
      | false => (
        (g_octet_Join (y1.1, ())).bind fun r2 => (
        some (r2, (0:Int))))))
  else
    iter (p_capsule_Gather_l6_F N) N (x.1, (0:Int), (decide (((List.length x.1 : Nat) : Int) > (256:Int))), x.1, ((List.length x.1 : Nat) : Int), (0:Int), ()) fun y3 => (
    if (y3.2.1 ≠ (0:Int)) then
      some ([], y3.2.1)
    else
      (match y3.2.2.1 with
      | true => (
        some ([], (3:Int)))
      | false => (
        (g_octet_Join (y3.1, ())).bind fun r4 => (
        some (r4, (0:Int))))))
theorem p_capsule_Gather_eq (N : Nat) (x : Ds [.sls (.int .u8)]) : funL p_capsule_Gather_E p_capsule_Gather_H (p_capsule_Gather_l6_L N) N Go.Proofs.Try.f12 p_capsule_Gather_c [.sls (.int .u8)] [.sl (.int .u8), .int .i64] x = p_capsule_Gather N x := by kernel_rfl
theorem p_capsule_Gather_Eok (he_octet_Join : SigOk Go.Proofs.Try.prog 28 ⟨[.sls (.int .u8)], [.sl (.int .u8)], g_octet_Join⟩) : p_capsule_Gather_E.Ok Go.Proofs.Try.prog := AE.of_ok (all_cons ty22_ok (all_cons ty23_ok all_nil)) (all_cons ⟨he_octet_Join, enters_octet_Join⟩ all_nil)
theorem p_capsule_Gather_ok (he_octet_Join : SigOk Go.Proofs.Try.prog 28 ⟨[.sls (.int .u8)], [.sl (.int .u8)], g_octet_Join⟩) {g : Ds [.sls (.int .u8)] → Option (Rs [.sl (.int .u8), .int .i64])} (hg : ∀ x r, g x = some r → ∃ N, p_capsule_Gather N x = some r) : SigOk Go.Proofs.Try.prog 12 ⟨[.sls (.int .u8)], [.sl (.int .u8), .int .i64], g⟩ :=
  fun_of (E := p_capsule_Gather_E) (H := p_capsule_Gather_H) (L := fun N => p_capsule_Gather_l6_L N) (c := p_capsule_Gather_c) (ks := p_capsule_Gather_ks) (rs := p_capsule_Gather_rs) (F := p_capsule_Gather) (p_capsule_Gather_Eok he_octet_Join) mix Go.Proofs.Try.func12 (by kernel_rfl) (fun N => p_capsule_Gather_l6_ok N) p_capsule_Gather_eq hg

/-! livery/liveryref23.Gather -/
noncomputable def p_ref23_Gather_E : AE := AE.of [(22, ty22), (23, ty23)] [(25, ⟨[.sls (.int .u8)], [.sl (.int .u8)], g_ref01_Join⟩)]
noncomputable def p_ref23_Gather_H : Hints := [(4, [0, 11, 12, 13]), (12, [0, 24, 25, 26]), (2000000, [0]), (2000001, [0, 11, 12, 13]), (2000002, [0]), (2000003, [0, 24, 25, 26]), (3000000, [2, 3])]
noncomputable def p_ref23_Gather_c : Code := (Go.Proofs.Try.f13).body.getD .skip
noncomputable def p_ref23_Gather_l4_S : Shape where
  h := { tmps := [.sc (.frs (.int .u8)), .any, .any, .any, .any, .any, .any, .any, .any, .any, .any, .sc (.frs (.int .u8)), .sc (.int .i64), .sc (.int .i64), .any, .any, .any, .any, .any, .any, .any, .any, .any, .any, .any, .any, .any, .any, .any, .any, .any, .any, .any, .any, .any, .any], mem := [] }
  ks := [.xss, .xss, .int, .int]
  st := fun x => { tmps := [.one (.sc (.fr (.xss (.int .u8) x.1))), .one .any, .one .any, .one .any, .one .any, .one .any, .one .any, .one .any, .one .any, .one .any, .one .any, .one (.sc (.fr (.xss (.int .u8) x.2.1))), .one (.sc (.int .i64 x.2.2.1)), .one (.sc (.int .i64 x.2.2.2.1)), .one .any, .one .any, .one .any, .one .any, .one .any, .one .any, .one .any, .one .any, .one .any, .one .any, .one .any, .one .any, .one .any, .one .any, .one .any, .one .any, .one .any, .one .any, .one .any, .one .any, .one .any, .one .any], mem := [] }
noncomputable def p_ref23_Gather_l4_F (N : Nat) (β : Type) (x : (List (List Int) × List (List Int) × Int × Int × Unit)) (kn : (List (List Int) × List (List Int) × Int × Int × Unit) → Option β) (ke : ((Int × Unit) ⊕ (List (List Int) × Unit)) → Option β) : Option β :=
  if (x.2.2.2.1 < x.2.2.1) then
    if 0 ≤ x.2.2.2.1 then (
    if x.2.2.2.1 < ((List.length x.2.1 : Nat) : Int) then (
    if (((List.length (List.getD x.2.1 (x.2.2.2.1.toNat) []) : Nat) : Int) = (0:Int)) then
      ke (.inl ((4:Int), ()))
    else
      kn (x.1, x.2.1, x.2.2.1, (IntKind.i64.wrap (x.2.2.2.1 + (1:Int))), ())) else none) else none
  else
    ke (.inr (x.1, ()))
noncomputable def p_ref23_Gather_l4_go : Go' ((Int × Unit) ⊕ (List (List Int) × Unit)) := fun y K => match y with
  | .inl y => K .ret { tmps := [.one .any, .one .any, .one (.sc (.nilsl)), .one (.sc (.int .i64 y.1)), .one .any, .one .any, .one .any, .one .any, .one .any, .one .any, .one .any, .one .any, .one .any, .one .any, .one .any, .one .any, .one .any, .one .any, .one .any, .one .any, .one .any, .one .any, .one .any, .one .any, .one .any, .one .any, .one .any, .one .any, .one .any, .one .any, .one .any, .one .any, .one .any, .one .any, .one .any, .one .any], mem := [] }
  | .inr y => K (.exit 0) { tmps := [.one (.sc (.fr (.xss (.int .u8) y.1))), .one .any, .one .any, .one .any, .one .any, .one .any, .one .any, .one .any, .one .any, .one .any, .one .any, .one .any, .one .any, .one .any, .one .any, .one .any, .one .any, .one .any, .one .any, .one .any, .one .any, .one .any, .one .any, .one .any, .one .any, .one .any, .one .any, .one .any, .one .any, .one .any, .one .any, .one .any, .one .any, .one .any, .one .any, .one .any], mem := [] }
noncomputable def p_ref23_Gather_l4_L (N : Nat) : LT := upd (LT.nil) 4 (loopE p_ref23_Gather_l4_S N (p_ref23_Gather_l4_F N) p_ref23_Gather_l4_go)
theorem p_ref23_Gather_l4_ok (N : Nat) : OkAll p_ref23_Gather_E p_ref23_Gather_H N (p_ref23_Gather_l4_L N) (subs p_ref23_Gather_c) :=
  addLoop (c := theLoop 4 p_ref23_Gather_c) (OkAll.nil) (by kernel_rfl) (fun x => by kernel_rfl) (fun β x kn ke => by kernel_rfl)
noncomputable def p_ref23_Gather_l12_S : Shape where
  h := { tmps := [.sc (.frs (.int .u8)), .any, .any, .any, .any, .any, .any, .any, .any, .any, .any, .any, .any, .any, .any, .any, .any, .any, .any, .any, .any, .any, .any, .any, .sc (.frs (.int .u8)), .sc (.int .i64), .sc (.int .i64), .any, .any, .any, .any, .any, .any, .any, .any, .any], mem := [] }
  ks := [.xss, .xss, .int, .int]
  st := fun x => { tmps := [.one (.sc (.fr (.xss (.int .u8) x.1))), .one .any, .one .any, .one .any, .one .any, .one .any, .one .any, .one .any, .one .any, .one .any, .one .any, .one .any, .one .any, .one .any, .one .any, .one .any, .one .any, .one .any, .one .any, .one .any, .one .any, .one .any, .one .any, .one .any, .one (.sc (.fr (.xss (.int .u8) x.2.1))), .one (.sc (.int .i64 x.2.2.1)), .one (.sc (.int .i64 x.2.2.2.1)), .one .any, .one .any, .one .any, .one .any, .one .any, .one .any, .one .any, .one .any, .one .any], mem := [] }
noncomputable def p_ref23_Gather_l12_F (N : Nat) (β : Type) (x : (List (List Int) × List (List Int) × Int × Int × Unit)) (kn : (List (List Int) × List (List Int) × Int × Int × Unit) → Option β) (ke : ((Int × Unit) ⊕ (List (List Int) × Unit)) → Option β) : Option β :=
  if (x.2.2.2.1 < x.2.2.1) then
    if 0 ≤ x.2.2.2.1 then (
    if x.2.2.2.1 < ((List.length x.2.1 : Nat) : Int) then (
    if (((List.length (List.getD x.2.1 (x.2.2.2.1.toNat) []) : Nat) : Int) > (1024:Int)) then
      ke (.inl ((3:Int), ()))
    else
      kn (x.1, x.2.1, x.2.2.1, (IntKind.i64.wrap (x.2.2.2.1 + (1:Int))), ())) else none) else none
  else
    ke (.inr (x.1, ()))
noncomputable def p_ref23_Gather_l12_go : Go' ((Int × Unit) ⊕ (List (List Int) × Unit)) := fun y K => match y with
  | .inl y => K .ret { tmps := [.one .any, .one .any, .one (.sc (.nilsl)), .one (.sc (.int .i64 y.1)), .one .any, .one .any, .one .any, .one .any, .one .any, .one .any, .one .any, .one .any, .one .any, .one .any, .one .any, .one .any, .one .any, .one .any, .one .any, .one .any, .one .any, .one .any, .one .any, .one .any, .one .any, .one .any, .one .any, .one .any, .one .any, .one .any, .one .any, .one .any, .one .any, .one .any, .one .any, .one .any], mem := [] }
  | .inr y => K (.exit 2) { tmps := [.one (.sc (.fr (.xss (.int .u8) y.1))), .one .any, .one .any, .one .any, .one .any, .one .any, .one .any, .one .any, .one .any, .one .any, .one .any, .one .any, .one .any, .one .any, .one .any, .one .any, .one .any, .one .any, .one .any, .one .any, .one .any, .one .any, .one .any, .one .any, .one .any, .one .any, .one .any, .one .any, .one .any, .one .any, .one .any, .one .any, .one .any, .one .any, .one .any, .one .any], mem := [] }
noncomputable def p_ref23_Gather_l12_L (N : Nat) : LT := upd (p_ref23_Gather_l4_L N) 12 (loopE p_ref23_Gather_l12_S N (p_ref23_Gather_l12_F N) p_ref23_Gather_l12_go)
theorem p_ref23_Gather_l12_ok (N : Nat) : OkAll p_ref23_Gather_E p_ref23_Gather_H N (p_ref23_Gather_l12_L N) (subs p_ref23_Gather_c) :=
  addLoop (c := theLoop 12 p_ref23_Gather_c) (p_ref23_Gather_l4_ok N) (by kernel_rfl) (fun x => by kernel_rfl) (fun β x kn ke => by kernel_rfl)
abbrev p_ref23_Gather_ks : List Kd := [.sls (.int .u8)]
abbrev p_ref23_Gather_rs : List Kd := [.sl (.int .u8), .int .i64]
noncomputable def p_ref23_Gather (N : Nat) (x : List (List Int) × Unit) : Option (List Int × Int) :=
  if (((List.length x.1 : Nat) : Int) = (0:Int)) then
    some ([], (4:Int))
  else
    iter (p_ref23_Gather_l4_F N) N (x.1, x.1, ((List.length x.1 : Nat) : Int), (0:Int), ()) fun y => (match y with
    | .inl y1 => (
      some ([], y1.1))
    | .inr y2 => (
      if (((List.length y2.1 : Nat) : Int) > (256:Int)) then
        some ([], (3:Int))
      else
        iter (p_ref23_Gather_l12_F N) N (y2.1, y2.1, ((List.length y2.1 : Nat) : Int), (0:Int), ()) fun y => (match y with
        | .inl y3 => (
          some ([], y3.1))
        | .inr y4 => (
          (g_ref01_Join (y4.1, ())).bind fun r5 => (
          some (r5, (0:Int)))))))
theorem p_ref23_Gather_eq (N : Nat) (x : Ds [.sls (.int .u8)]) : funL p_ref23_Gather_E p_ref23_Gather_H (p_ref23_Gather_l12_L N) N Go.Proofs.Try.f13 p_ref23_Gather_c [.sls (.int .u8)] [.sl (.int .u8), .int .i64] x = p_ref23_Gather N x := by kernel_rfl
theorem p_ref23_Gather_Eok (he_ref01_Join : SigOk Go.Proofs.Try.prog 25 ⟨[.sls (.int .u8)], [.sl (.int .u8)], g_ref01_Join⟩) : p_ref23_Gather_E.Ok Go.Proofs.Try.prog := AE.of_ok (all_cons ty22_ok (all_cons ty23_ok all_nil)) (all_cons ⟨he_ref01_Join, enters_ref01_Join⟩ all_nil)
theorem p_ref23_Gather_ok (he_ref01_Join : SigOk Go.Proofs.Try.prog 25 ⟨[.sls (.int .u8)], [.sl (.int .u8)], g_ref01_Join⟩) {g : Ds [.sls (.int .u8)] → Option (Rs [.sl (.int .u8), .int .i64])} (hg : ∀ x r, g x = some r → ∃ N, p_ref23_Gather N x = some r) : SigOk Go.Proofs.Try.prog 13 ⟨[.sls (.int .u8)], [.sl (.int .u8), .int .i64], g⟩ :=
  fun_of (E := p_ref23_Gather_E) (H := p_ref23_Gather_H) (L := fun N => p_ref23_Gather_l12_L N) (c := p_ref23_Gather_c) (ks := p_ref23_Gather_ks) (rs := p_ref23_Gather_rs) (F := p_ref23_Gather) (p_ref23_Gather_Eok he_ref01_Join) mix Go.Proofs.Try.func13 (by kernel_rfl) (fun N => p_ref23_Gather_l12_ok N) p_ref23_Gather_eq hg

/-! livery/octet.big -/
noncomputable def p_octet_big_E : AE := AE.of [(5, ty5), (22, ty22), (33, ty33)] []
noncomputable def p_octet_big_H : Hints := [(3, [0, 1, 5, 10, 11]), (2000000, [5]), (2000001, [0, 1, 5, 10, 11]), (3000000, [4])]
noncomputable def p_octet_big_c : Code := (Go.Proofs.Try.f49).body.getD .skip
noncomputable def p_octet_big_l3_S : Shape where
  h := { tmps := [.sc (.int .u64), .sc (.int .i64), .any, .any, .any, .sc (.vec 0 none 1), .any, .any, .any, .any, .sc (.int .i64), .sc (.int .i64), .any, .any, .any, .any, .any, .any, .any, .any, .any, .any, .any, .any, .any, .any, .any], mem := [.live [.xs (.int .u8) none] (.own)] }
  ks := [.int, .int, .nat, .int, .int, .nat, .xs]
  st := fun x => { tmps := [.one (.sc (.int .u64 x.1)), .one (.sc (.int .i64 x.2.1)), .one .any, .one .any, .one .any, .one (.sc (.vec 0 x.2.2.1 1)), .one .any, .one .any, .one .any, .one .any, .one (.sc (.int .i64 x.2.2.2.1)), .one (.sc (.int .i64 x.2.2.2.2.1)), .one .any, .one .any, .one .any, .one .any, .one .any, .one .any, .one .any, .one .any, .one .any, .one .any, .one .any, .one .any, .one .any, .one .any, .one .any], mem := [.live { segs := [.xs (.int .u8) x.2.2.2.2.2.1 x.2.2.2.2.2.2.1], own := .own }] }
noncomputable def p_octet_big_l3_F (N : Nat) (β : Type) (x : (Int × Int × Nat × Int × Int × Nat × List Int × Unit)) (kn : (Int × Int × Nat × Int × Int × Nat × List Int × Unit) → Option β) (ke : ((Nat × Nat × List Int × Unit)) → Option β) : Option β :=
  if (x.2.2.2.2.1 < x.2.2.2.1) then
    if (IntKind.i64.wrap ((8:Int) * x.2.2.2.2.1)) < 0 then none else (
    if 0 ≤ (IntKind.i64.wrap ((IntKind.i64.wrap (x.2.1 - (1:Int))) - x.2.2.2.2.1)) then (
    if (IntKind.i64.wrap ((IntKind.i64.wrap (x.2.1 - (1:Int))) - x.2.2.2.2.1)) < ((x.2.2.1 : Nat) : Int) then (
    if ((IntKind.i64.wrap ((IntKind.i64.wrap (x.2.1 - (1:Int))) - x.2.2.2.2.1)).toNat) < x.2.2.2.2.2.1 then (
    kn (x.1, x.2.1, x.2.2.1, x.2.2.2.1, (IntKind.i64.wrap (x.2.2.2.2.1 + (1:Int))), x.2.2.2.2.2.1, (List.set x.2.2.2.2.2.2.1 ((IntKind.i64.wrap ((IntKind.i64.wrap (x.2.1 - (1:Int))) - x.2.2.2.2.1)).toNat) (IntKind.u8.wrap (ishr IntKind.u64 x.1 (IntKind.i64.wrap ((8:Int) * x.2.2.2.2.1))))), ())) else none) else none) else none)
  else
    ke (x.2.2.1, x.2.2.2.2.2.1, x.2.2.2.2.2.2.1, ())
noncomputable def p_octet_big_l3_go : Go' ((Nat × Nat × List Int × Unit)) := fun y K => K (.exit 0) { tmps := [.one .any, .one .any, .one .any, .one .any, .one .any, .one (.sc (.vec 0 y.1 1)), .one .any, .one .any, .one .any, .one .any, .one .any, .one .any, .one .any, .one .any, .one .any, .one .any, .one .any, .one .any, .one .any, .one .any, .one .any, .one .any, .one .any, .one .any, .one .any, .one .any, .one .any], mem := [.live { segs := [.xs (.int .u8) y.2.1 y.2.2.1], own := .own }] }
noncomputable def p_octet_big_l3_L (N : Nat) : LT := upd (LT.nil) 3 (loopE p_octet_big_l3_S N (p_octet_big_l3_F N) p_octet_big_l3_go)
theorem p_octet_big_l3_ok (N : Nat) : OkAll p_octet_big_E p_octet_big_H N (p_octet_big_l3_L N) (subs p_octet_big_c) :=
  addLoop (c := theLoop 3 p_octet_big_c) (OkAll.nil) (by kernel_rfl) (fun x => by kernel_rfl) (fun β x kn ke => by kernel_rfl)
abbrev p_octet_big_ks : List Kd := [.int .u64, .int .i64]
abbrev p_octet_big_rs : List Kd := [.sl (.int .u8)]
noncomputable def p_octet_big (N : Nat) (x : Int × Int × Unit) : Option (List Int) :=
  if 0 ≤ x.2.1 then (
  if x.2.1 = x.2.1 then (
  if x.2.1 * 1 ≤ 281474976710656 then (
  iter (p_octet_big_l3_F N) N (x.1, x.2.1, (x.2.1.toNat), (((x.2.1.toNat) : Nat) : Int), (0:Int), (x.2.1.toNat), (List.replicate (x.2.1.toNat) 0), ()) fun y1 => (
  some y1.2.2.1)) else none) else none) else none
theorem p_octet_big_eq (N : Nat) (x : Ds [.int .u64, .int .i64]) : funL p_octet_big_E p_octet_big_H (p_octet_big_l3_L N) N Go.Proofs.Try.f49 p_octet_big_c [.int .u64, .int .i64] [.sl (.int .u8)] x = p_octet_big N x := by kernel_rfl
theorem p_octet_big_Eok : p_octet_big_E.Ok Go.Proofs.Try.prog := AE.of_ok (all_cons ty5_ok (all_cons ty22_ok (all_cons ty33_ok all_nil))) all_nil
theorem p_octet_big_ok {g : Ds [.int .u64, .int .i64] → Option (Rs [.sl (.int .u8)])} (hg : ∀ x r, g x = some r → ∃ N, p_octet_big N x = some r) : SigOk Go.Proofs.Try.prog 49 ⟨[.int .u64, .int .i64], [.sl (.int .u8)], g⟩ :=
  fun_of (E := p_octet_big_E) (H := p_octet_big_H) (L := fun N => p_octet_big_l3_L N) (c := p_octet_big_c) (ks := p_octet_big_ks) (rs := p_octet_big_rs) (F := p_octet_big) (p_octet_big_Eok) mix Go.Proofs.Try.func49 (by kernel_rfl) (fun N => p_octet_big_l3_ok N) p_octet_big_eq hg

/-! livery/octet.U16 -/
noncomputable def p_octet_U16_E : AE := AE.of [(33, ty33), (59, ty59)] [(49, ⟨[.int .u64, .int .i64], [.sl (.int .u8)], g_octet_big⟩)]
noncomputable def p_octet_U16_H : Hints := [(3000000, [2])]
noncomputable def p_octet_U16_c : Code := (Go.Proofs.Try.f42).body.getD .skip
abbrev p_octet_U16_ks : List Kd := [.int .u16]
abbrev p_octet_U16_rs : List Kd := [.sl (.int .u8)]
noncomputable def p_octet_U16 (N : Nat) (x : Int × Unit) : Option (List Int) :=
  (g_octet_big ((IntKind.u64.wrap x.1), (2:Int), ())).bind fun r1 => (
  some r1)
theorem p_octet_U16_eq (N : Nat) (x : Ds [.int .u16]) : funL p_octet_U16_E p_octet_U16_H (LT.nil) N Go.Proofs.Try.f42 p_octet_U16_c [.int .u16] [.sl (.int .u8)] x = p_octet_U16 N x := by kernel_rfl
theorem p_octet_U16_Eok (he_octet_big : SigOk Go.Proofs.Try.prog 49 ⟨[.int .u64, .int .i64], [.sl (.int .u8)], g_octet_big⟩) : p_octet_U16_E.Ok Go.Proofs.Try.prog := AE.of_ok (all_cons ty33_ok (all_cons ty59_ok all_nil)) (all_cons ⟨he_octet_big, enters_octet_big⟩ all_nil)
theorem p_octet_U16_ok (he_octet_big : SigOk Go.Proofs.Try.prog 49 ⟨[.int .u64, .int .i64], [.sl (.int .u8)], g_octet_big⟩) {g : Ds [.int .u16] → Option (Rs [.sl (.int .u8)])} (hg : ∀ x r, g x = some r → ∃ N, p_octet_U16 N x = some r) : SigOk Go.Proofs.Try.prog 42 ⟨[.int .u16], [.sl (.int .u8)], g⟩ :=
  fun_of (E := p_octet_U16_E) (H := p_octet_U16_H) (L := fun N => LT.nil) (c := p_octet_U16_c) (ks := p_octet_U16_ks) (rs := p_octet_U16_rs) (F := p_octet_U16) (p_octet_U16_Eok he_octet_big) mix Go.Proofs.Try.func42 (by kernel_rfl) (fun N => OkAll.nil) p_octet_U16_eq hg

/-! livery/octet.U32 -/
noncomputable def p_octet_U32_E : AE := AE.of [(32, ty32), (33, ty33)] [(49, ⟨[.int .u64, .int .i64], [.sl (.int .u8)], g_octet_big⟩)]
noncomputable def p_octet_U32_H : Hints := [(3000000, [2])]
noncomputable def p_octet_U32_c : Code := (Go.Proofs.Try.f45).body.getD .skip
abbrev p_octet_U32_ks : List Kd := [.int .u32]
abbrev p_octet_U32_rs : List Kd := [.sl (.int .u8)]
noncomputable def p_octet_U32 (N : Nat) (x : Int × Unit) : Option (List Int) :=
  (g_octet_big ((IntKind.u64.wrap x.1), (4:Int), ())).bind fun r1 => (
  some r1)
theorem p_octet_U32_eq (N : Nat) (x : Ds [.int .u32]) : funL p_octet_U32_E p_octet_U32_H (LT.nil) N Go.Proofs.Try.f45 p_octet_U32_c [.int .u32] [.sl (.int .u8)] x = p_octet_U32 N x := by kernel_rfl
theorem p_octet_U32_Eok (he_octet_big : SigOk Go.Proofs.Try.prog 49 ⟨[.int .u64, .int .i64], [.sl (.int .u8)], g_octet_big⟩) : p_octet_U32_E.Ok Go.Proofs.Try.prog := AE.of_ok (all_cons ty32_ok (all_cons ty33_ok all_nil)) (all_cons ⟨he_octet_big, enters_octet_big⟩ all_nil)
theorem p_octet_U32_ok (he_octet_big : SigOk Go.Proofs.Try.prog 49 ⟨[.int .u64, .int .i64], [.sl (.int .u8)], g_octet_big⟩) {g : Ds [.int .u32] → Option (Rs [.sl (.int .u8)])} (hg : ∀ x r, g x = some r → ∃ N, p_octet_U32 N x = some r) : SigOk Go.Proofs.Try.prog 45 ⟨[.int .u32], [.sl (.int .u8)], g⟩ :=
  fun_of (E := p_octet_U32_E) (H := p_octet_U32_H) (L := fun N => LT.nil) (c := p_octet_U32_c) (ks := p_octet_U32_ks) (rs := p_octet_U32_rs) (F := p_octet_U32) (p_octet_U32_Eok he_octet_big) mix Go.Proofs.Try.func45 (by kernel_rfl) (fun N => OkAll.nil) p_octet_U32_eq hg

/-! livery/octet.U64 -/
noncomputable def p_octet_U64_E : AE := AE.of [] [(49, ⟨[.int .u64, .int .i64], [.sl (.int .u8)], g_octet_big⟩)]
noncomputable def p_octet_U64_H : Hints := [(3000000, [2])]
noncomputable def p_octet_U64_c : Code := (Go.Proofs.Try.f46).body.getD .skip
abbrev p_octet_U64_ks : List Kd := [.int .u64]
abbrev p_octet_U64_rs : List Kd := [.sl (.int .u8)]
noncomputable def p_octet_U64 (N : Nat) (x : Int × Unit) : Option (List Int) :=
  (g_octet_big (x.1, (8:Int), ())).bind fun r1 => (
  some r1)
theorem p_octet_U64_eq (N : Nat) (x : Ds [.int .u64]) : funL p_octet_U64_E p_octet_U64_H (LT.nil) N Go.Proofs.Try.f46 p_octet_U64_c [.int .u64] [.sl (.int .u8)] x = p_octet_U64 N x := by kernel_rfl
theorem p_octet_U64_Eok (he_octet_big : SigOk Go.Proofs.Try.prog 49 ⟨[.int .u64, .int .i64], [.sl (.int .u8)], g_octet_big⟩) : p_octet_U64_E.Ok Go.Proofs.Try.prog := AE.of_ok all_nil (all_cons ⟨he_octet_big, enters_octet_big⟩ all_nil)
theorem p_octet_U64_ok (he_octet_big : SigOk Go.Proofs.Try.prog 49 ⟨[.int .u64, .int .i64], [.sl (.int .u8)], g_octet_big⟩) {g : Ds [.int .u64] → Option (Rs [.sl (.int .u8)])} (hg : ∀ x r, g x = some r → ∃ N, p_octet_U64 N x = some r) : SigOk Go.Proofs.Try.prog 46 ⟨[.int .u64], [.sl (.int .u8)], g⟩ :=
  fun_of (E := p_octet_U64_E) (H := p_octet_U64_H) (L := fun N => LT.nil) (c := p_octet_U64_c) (ks := p_octet_U64_ks) (rs := p_octet_U64_rs) (F := p_octet_U64) (p_octet_U64_Eok he_octet_big) mix Go.Proofs.Try.func46 (by kernel_rfl) (fun N => OkAll.nil) p_octet_U64_eq hg

/-! livery/span.one -/
noncomputable def p_span_one_E : AE := AE.of [(33, ty33), (35, ty35)] []
noncomputable def p_span_one_H : Hints := [(3000000, [2])]
noncomputable def p_span_one_c : Code := (Go.Proofs.Try.f50).body.getD .skip
abbrev p_span_one_ks : List Kd := [.cat [.int .u64, .int .u64]]
abbrev p_span_one_rs : List Kd := [.bool]
noncomputable def p_span_one (N : Nat) (x : (Int × Int × Unit) × Unit) : Option (Bool) :=
  if (x.1.1 < x.1.2.1) then
    some (decide (x.1.2.1 ≤ (1152921504606846976:Int)))
  else
    some false
theorem p_span_one_eq (N : Nat) (x : Ds [.cat [.int .u64, .int .u64]]) : funL p_span_one_E p_span_one_H (LT.nil) N Go.Proofs.Try.f50 p_span_one_c [.cat [.int .u64, .int .u64]] [.bool] x = p_span_one N x := by kernel_rfl
theorem p_span_one_Eok : p_span_one_E.Ok Go.Proofs.Try.prog := AE.of_ok (all_cons ty33_ok (all_cons ty35_ok all_nil)) all_nil
theorem p_span_one_ok {g : Ds [.cat [.int .u64, .int .u64]] → Option (Rs [.bool])} (hg : ∀ x r, g x = some r → ∃ N, p_span_one N x = some r) : SigOk Go.Proofs.Try.prog 50 ⟨[.cat [.int .u64, .int .u64]], [.bool], g⟩ :=
  fun_of (E := p_span_one_E) (H := p_span_one_H) (L := fun N => LT.nil) (c := p_span_one_c) (ks := p_span_one_ks) (rs := p_span_one_rs) (F := p_span_one) (p_span_one_Eok) mix Go.Proofs.Try.func50 (by kernel_rfl) (fun N => OkAll.nil) p_span_one_eq hg

/-! livery/span.May -/
noncomputable def p_span_May_E : AE := AE.of [(33, ty33), (35, ty35), (62, ty62)] [(50, ⟨[.cat [.int .u64, .int .u64]], [.bool], g_span_one⟩)]
noncomputable def p_span_May_H : Hints := [(2, [0, 5, 6, 7]), (2000000, [0]), (2000001, [0, 5, 6, 7]), (3000000, [2])]
noncomputable def p_span_May_c : Code := (Go.Proofs.Try.f44).body.getD .skip
noncomputable def p_span_May_l2_S : Shape where
  h := { tmps := [.sc (.vec 0 none 2), .any, .any, .any, .any, .sc (.vec 0 none 2), .sc (.int .i64), .sc (.int .i64), .any, .any, .any, .any, .any, .any, .any, .any, .any, .any, .any, .any, .any, .any, .any, .any, .any, .any, .any, .any, .any, .any, .any, .any, .any, .any], mem := [.live [.xs (.int .u64) none] (.ro)] }
  ks := [.nat, .nat, .int, .int, .nat, .xs]
  st := fun x => { tmps := [.one (.sc (.vec 0 x.1 2)), .one .any, .one .any, .one .any, .one .any, .one (.sc (.vec 0 x.2.1 2)), .one (.sc (.int .i64 x.2.2.1)), .one (.sc (.int .i64 x.2.2.2.1)), .one .any, .one .any, .one .any, .one .any, .one .any, .one .any, .one .any, .one .any, .one .any, .one .any, .one .any, .one .any, .one .any, .one .any, .one .any, .one .any, .one .any, .one .any, .one .any, .one .any, .one .any, .one .any, .one .any, .one .any, .one .any, .one .any], mem := [.live { segs := [.xs (.int .u64) x.2.2.2.2.1 x.2.2.2.2.2.1], own := .ro }] }
noncomputable def p_span_May_l2_F (N : Nat) (β : Type) (x : (Nat × Nat × Int × Int × Nat × List Int × Unit)) (kn : (Nat × Nat × Int × Int × Nat × List Int × Unit) → Option β) (ke : ((Bool × Unit) ⊕ (Nat × Nat × List Int × Unit)) → Option β) : Option β :=
  if (x.2.2.2.1 < x.2.2.1) then
    if 0 ≤ x.2.2.2.1 then (
    if x.2.2.2.1 < ((x.2.1 : Nat) : Int) then (
    if ((x.2.2.2.1.toNat) * 2) + 2 ≤ x.2.2.2.2.1 then (
    (g_span_one (((List.getD (List.take 1 (List.take 2 (List.drop ((x.2.2.2.1.toNat) * 2) x.2.2.2.2.2.1))) 0 0), (List.getD (List.drop 1 (List.take 2 (List.drop ((x.2.2.2.1.toNat) * 2) x.2.2.2.2.2.1))) 0 0), ()), ())).bind fun r1 => (
    if (¬ (r1 = true)) then
      ke (.inl (false, ()))
    else
      if (x.2.2.2.1 > (0:Int)) then
        if 0 ≤ (IntKind.i64.wrap (x.2.2.2.1 - (1:Int))) then (
        if (IntKind.i64.wrap (x.2.2.2.1 - (1:Int))) < ((x.1 : Nat) : Int) then (
        if (1 + (((IntKind.i64.wrap (x.2.2.2.1 - (1:Int))).toNat) * 2)) < x.2.2.2.2.1 then (
        if ((List.getD (List.take 2 (List.drop ((x.2.2.2.1.toNat) * 2) x.2.2.2.2.2.1)) 0 0) ≤ (List.getD x.2.2.2.2.2.1 (1 + (((IntKind.i64.wrap (x.2.2.2.1 - (1:Int))).toNat) * 2)) 0)) then
          ke (.inl (false, ()))
        else
          kn (x.1, x.2.1, x.2.2.1, (IntKind.i64.wrap (x.2.2.2.1 + (1:Int))), x.2.2.2.2.1, x.2.2.2.2.2.1, ())) else none) else none) else none
      else
        kn (x.1, x.2.1, x.2.2.1, (IntKind.i64.wrap (x.2.2.2.1 + (1:Int))), x.2.2.2.2.1, x.2.2.2.2.2.1, ()))) else none) else none) else none
  else
    ke (.inr (x.1, x.2.2.2.2.1, x.2.2.2.2.2.1, ()))
noncomputable def p_span_May_l2_go : Go' ((Bool × Unit) ⊕ (Nat × Nat × List Int × Unit)) := fun y K => match y with
  | .inl y => K .ret { tmps := [.one .any, .one .any, .one (.sc (.known y.1)), .one .any, .one .any, .one .any, .one .any, .one .any, .one .any, .one .any, .one .any, .one .any, .one .any, .one .any, .one .any, .one .any, .one .any, .one .any, .one .any, .one .any, .one .any, .one .any, .one .any, .one .any, .one .any, .one .any, .one .any, .one .any, .one .any, .one .any, .one .any, .one .any, .one .any, .one .any], mem := [] }
  | .inr y => K (.exit 0) { tmps := [.one (.sc (.vec 0 y.1 2)), .one .any, .one .any, .one .any, .one .any, .one .any, .one .any, .one .any, .one .any, .one .any, .one .any, .one .any, .one .any, .one .any, .one .any, .one .any, .one .any, .one .any, .one .any, .one .any, .one .any, .one .any, .one .any, .one .any, .one .any, .one .any, .one .any, .one .any, .one .any, .one .any, .one .any, .one .any, .one .any, .one .any], mem := [.live { segs := [.xs (.int .u64) y.2.1 y.2.2.1], own := .ro }] }
noncomputable def p_span_May_l2_L (N : Nat) : LT := upd (LT.nil) 2 (loopE p_span_May_l2_S N (p_span_May_l2_F N) p_span_May_l2_go)
theorem p_span_May_l2_ok (N : Nat) : OkAll p_span_May_E p_span_May_H N (p_span_May_l2_L N) (subs p_span_May_c) :=
  addLoop (c := theLoop 2 p_span_May_c) (OkAll.nil) (by kernel_rfl) (fun x => by kernel_rfl) (fun β x kn ke => by kernel_rfl)
abbrev p_span_May_ks : List Kd := [.sla (.int .u64) 2]
abbrev p_span_May_rs : List Kd := [.bool]
noncomputable def p_span_May (N : Nat) (x : List Int × Unit) : Option (Bool) :=
  iter (p_span_May_l2_F N) N ((List.length x.1 / 2), (List.length x.1 / 2), (((List.length x.1 / 2) : Nat) : Int), (0:Int), (List.length x.1), x.1, ()) fun y => (match y with
  | .inl y2 => (
    some y2.1)
  | .inr y3 => (
    some (decide (((y3.1 : Nat) : Int) ≤ (64:Int)))))
theorem p_span_May_eq (N : Nat) (x : Ds [.sla (.int .u64) 2]) : funL p_span_May_E p_span_May_H (p_span_May_l2_L N) N Go.Proofs.Try.f44 p_span_May_c [.sla (.int .u64) 2] [.bool] x = p_span_May N x := by kernel_rfl
theorem p_span_May_Eok (he_span_one : SigOk Go.Proofs.Try.prog 50 ⟨[.cat [.int .u64, .int .u64]], [.bool], g_span_one⟩) : p_span_May_E.Ok Go.Proofs.Try.prog := AE.of_ok (all_cons ty33_ok (all_cons ty35_ok (all_cons ty62_ok all_nil))) (all_cons ⟨he_span_one, enters_span_one⟩ all_nil)
theorem p_span_May_ok (he_span_one : SigOk Go.Proofs.Try.prog 50 ⟨[.cat [.int .u64, .int .u64]], [.bool], g_span_one⟩) {g : Ds [.sla (.int .u64) 2] → Option (Rs [.bool])} (hg : ∀ x r, g x = some r → ∃ N, p_span_May N x = some r) : SigOk Go.Proofs.Try.prog 44 ⟨[.sla (.int .u64) 2], [.bool], g⟩ :=
  fun_of (E := p_span_May_E) (H := p_span_May_H) (L := fun N => p_span_May_l2_L N) (c := p_span_May_c) (ks := p_span_May_ks) (rs := p_span_May_rs) (F := p_span_May) (p_span_May_Eok he_span_one) mix Go.Proofs.Try.func44 (by kernel_rfl) (fun N => p_span_May_l2_ok N) p_span_May_eq hg

/-! livery/capsule.spoken$1 -/
noncomputable def p_capsule_spoken_1_E : AE := AE.of [] []
noncomputable def p_capsule_spoken_1_H : Hints := [(3000000, [2])]
noncomputable def p_capsule_spoken_1_c : Code := (Go.Proofs.Try.f43).body.getD .skip
abbrev p_capsule_spoken_1_ks : List Kd := [.int .i64]
abbrev p_capsule_spoken_1_rs : List Kd := [.bool]
noncomputable def p_capsule_spoken_1 (N : Nat) (x : Int × Unit) : Option (Bool) :=
  if (x.1 ≥ (0:Int)) then
    some (decide (x.1 < (16:Int)))
  else
    some false
theorem p_capsule_spoken_1_eq (N : Nat) (x : Ds [.int .i64]) : funL p_capsule_spoken_1_E p_capsule_spoken_1_H (LT.nil) N Go.Proofs.Try.f43 p_capsule_spoken_1_c [.int .i64] [.bool] x = p_capsule_spoken_1 N x := by kernel_rfl
theorem p_capsule_spoken_1_Eok : p_capsule_spoken_1_E.Ok Go.Proofs.Try.prog := AE.of_ok all_nil all_nil
theorem p_capsule_spoken_1_ok {g : Ds [.int .i64] → Option (Rs [.bool])} (hg : ∀ x r, g x = some r → ∃ N, p_capsule_spoken_1 N x = some r) : SigOk Go.Proofs.Try.prog 43 ⟨[.int .i64], [.bool], g⟩ :=
  fun_of (E := p_capsule_spoken_1_E) (H := p_capsule_spoken_1_H) (L := fun N => LT.nil) (c := p_capsule_spoken_1_c) (ks := p_capsule_spoken_1_ks) (rs := p_capsule_spoken_1_rs) (F := p_capsule_spoken_1) (p_capsule_spoken_1_Eok) mix Go.Proofs.Try.func43 (by kernel_rfl) (fun N => OkAll.nil) p_capsule_spoken_1_eq hg

/-! livery/capsule.spoken -/
noncomputable def p_capsule_spoken_E : AE := AE.of [(3, ty3), (22, ty22), (35, ty35), (37, ty37), (62, ty62)] [(43, ⟨[.int .i64], [.bool], g_capsule_spoken_1⟩), (44, ⟨[.sla (.int .u64) 2], [.bool], g_span_May⟩)]
noncomputable def p_capsule_spoken_H : Hints := [(3000000, [2])]
noncomputable def p_capsule_spoken_c : Code := (Go.Proofs.Try.f33).body.getD .skip
abbrev p_capsule_spoken_ks : List Kd := [.cat [.int .i64, .int .i64, .int .u32, .int .u32, .int .u64, .int .u64, .sl (.int .u8), .sl (.int .u8), .sl (.int .u8), .sl (.int .u8)]]
abbrev p_capsule_spoken_rs : List Kd := [.bool]
noncomputable def p_capsule_spoken (N : Nat) (x : (Int × Int × Int × Int × Int × Int × List Int × List Int × List Int × List Int × Unit) × Unit) : Option (Bool) :=
  (g_capsule_spoken_1 (x.1.1, ())).bind fun r1 => (
  if (r1 = true) then
    (g_capsule_spoken_1 (x.1.2.1, ())).bind fun r2 => (
    if (r2 = true) then
      if (x.1.1 ≠ x.1.2.1) then
        (g_span_May ((x.1.2.2.2.2.1 :: (x.1.2.2.2.2.2.1 :: [])), ())).bind fun r3 => (
        if (r3 = true) then
          if (((List.length x.1.2.2.2.2.2.2.1 : Nat) : Int) ≥ (1:Int)) then
            some (decide (((List.length x.1.2.2.2.2.2.2.1 : Nat) : Int) ≤ (68:Int)))
          else
            some false
        else
          some false)
      else
        some false
    else
      some false)
  else
    some false)
theorem p_capsule_spoken_eq (N : Nat) (x : Ds [.cat [.int .i64, .int .i64, .int .u32, .int .u32, .int .u64, .int .u64, .sl (.int .u8), .sl (.int .u8), .sl (.int .u8), .sl (.int .u8)]]) : funL p_capsule_spoken_E p_capsule_spoken_H (LT.nil) N Go.Proofs.Try.f33 p_capsule_spoken_c [.cat [.int .i64, .int .i64, .int .u32, .int .u32, .int .u64, .int .u64, .sl (.int .u8), .sl (.int .u8), .sl (.int .u8), .sl (.int .u8)]] [.bool] x = p_capsule_spoken N x := by kernel_rfl
theorem p_capsule_spoken_Eok (he_capsule_spoken_1 : SigOk Go.Proofs.Try.prog 43 ⟨[.int .i64], [.bool], g_capsule_spoken_1⟩) (he_span_May : SigOk Go.Proofs.Try.prog 44 ⟨[.sla (.int .u64) 2], [.bool], g_span_May⟩) : p_capsule_spoken_E.Ok Go.Proofs.Try.prog := AE.of_ok (all_cons ty3_ok (all_cons ty22_ok (all_cons ty35_ok (all_cons ty37_ok (all_cons ty62_ok all_nil))))) (all_cons ⟨he_capsule_spoken_1, enters_capsule_spoken_1⟩ (all_cons ⟨he_span_May, enters_span_May⟩ all_nil))
theorem p_capsule_spoken_ok (he_capsule_spoken_1 : SigOk Go.Proofs.Try.prog 43 ⟨[.int .i64], [.bool], g_capsule_spoken_1⟩) (he_span_May : SigOk Go.Proofs.Try.prog 44 ⟨[.sla (.int .u64) 2], [.bool], g_span_May⟩) {g : Ds [.cat [.int .i64, .int .i64, .int .u32, .int .u32, .int .u64, .int .u64, .sl (.int .u8), .sl (.int .u8), .sl (.int .u8), .sl (.int .u8)]] → Option (Rs [.bool])} (hg : ∀ x r, g x = some r → ∃ N, p_capsule_spoken N x = some r) : SigOk Go.Proofs.Try.prog 33 ⟨[.cat [.int .i64, .int .i64, .int .u32, .int .u32, .int .u64, .int .u64, .sl (.int .u8), .sl (.int .u8), .sl (.int .u8), .sl (.int .u8)]], [.bool], g⟩ :=
  fun_of (E := p_capsule_spoken_E) (H := p_capsule_spoken_H) (L := fun N => LT.nil) (c := p_capsule_spoken_c) (ks := p_capsule_spoken_ks) (rs := p_capsule_spoken_rs) (F := p_capsule_spoken) (p_capsule_spoken_Eok he_capsule_spoken_1 he_span_May) mix Go.Proofs.Try.func33 (by kernel_rfl) (fun N => OkAll.nil) p_capsule_spoken_eq hg

/-! livery/capsule.said -/
noncomputable def p_capsule_said_E : AE := AE.of [(3, ty3), (5, ty5), (22, ty22), (23, ty23), (32, ty32), (33, ty33), (35, ty35), (37, ty37), (59, ty59)] [(45, ⟨[.int .u32], [.sl (.int .u8)], g_octet_U32⟩), (46, ⟨[.int .u64], [.sl (.int .u8)], g_octet_U64⟩), (42, ⟨[.int .u16], [.sl (.int .u8)], g_octet_U16⟩), (28, ⟨[.sls (.int .u8)], [.sl (.int .u8)], g_octet_Join⟩)]
noncomputable def p_capsule_said_H : Hints := [(3000000, [2])]
noncomputable def p_capsule_said_c : Code := (Go.Proofs.Try.f34).body.getD .skip
abbrev p_capsule_said_ks : List Kd := [.cat [.int .i64, .int .i64, .int .u32, .int .u32, .int .u64, .int .u64, .sl (.int .u8), .sl (.int .u8), .sl (.int .u8), .sl (.int .u8)]]
abbrev p_capsule_said_rs : List Kd := [.sl (.int .u8)]
noncomputable def p_capsule_said (N : Nat) (x : (Int × Int × Int × Int × Int × Int × List Int × List Int × List Int × List Int × Unit) × Unit) : Option (List Int) :=
  (g_octet_U32 (x.1.2.2.1, ())).bind fun r1 => (
  (g_octet_U32 (x.1.2.2.2.1, ())).bind fun r2 => (
  (g_octet_U64 (x.1.2.2.2.2.1, ())).bind fun r3 => (
  (g_octet_U64 (x.1.2.2.2.2.2.1, ())).bind fun r4 => (
  (g_octet_U16 ((IntKind.u16.wrap ((List.length x.1.2.2.2.2.2.2.1 : Nat) : Int)), ())).bind fun r5 => (
  (g_octet_Join ([(List.set (List.set (List.replicate 2 0) 0 (IntKind.u8.wrap x.1.1)) 1 (IntKind.u8.wrap x.1.2.1)), r1, r2, r3, r4, r5, x.1.2.2.2.2.2.2.1], ())).bind fun r6 => (
  some r6))))))
theorem p_capsule_said_eq (N : Nat) (x : Ds [.cat [.int .i64, .int .i64, .int .u32, .int .u32, .int .u64, .int .u64, .sl (.int .u8), .sl (.int .u8), .sl (.int .u8), .sl (.int .u8)]]) : funL p_capsule_said_E p_capsule_said_H (LT.nil) N Go.Proofs.Try.f34 p_capsule_said_c [.cat [.int .i64, .int .i64, .int .u32, .int .u32, .int .u64, .int .u64, .sl (.int .u8), .sl (.int .u8), .sl (.int .u8), .sl (.int .u8)]] [.sl (.int .u8)] x = p_capsule_said N x := by kernel_rfl
theorem p_capsule_said_Eok (he_octet_U32 : SigOk Go.Proofs.Try.prog 45 ⟨[.int .u32], [.sl (.int .u8)], g_octet_U32⟩) (he_octet_U64 : SigOk Go.Proofs.Try.prog 46 ⟨[.int .u64], [.sl (.int .u8)], g_octet_U64⟩) (he_octet_U16 : SigOk Go.Proofs.Try.prog 42 ⟨[.int .u16], [.sl (.int .u8)], g_octet_U16⟩) (he_octet_Join : SigOk Go.Proofs.Try.prog 28 ⟨[.sls (.int .u8)], [.sl (.int .u8)], g_octet_Join⟩) : p_capsule_said_E.Ok Go.Proofs.Try.prog := AE.of_ok (all_cons ty3_ok (all_cons ty5_ok (all_cons ty22_ok (all_cons ty23_ok (all_cons ty32_ok (all_cons ty33_ok (all_cons ty35_ok (all_cons ty37_ok (all_cons ty59_ok all_nil))))))))) (all_cons ⟨he_octet_U32, enters_octet_U32⟩ (all_cons ⟨he_octet_U64, enters_octet_U64⟩ (all_cons ⟨he_octet_U16, enters_octet_U16⟩ (all_cons ⟨he_octet_Join, enters_octet_Join⟩ all_nil))))
theorem p_capsule_said_ok (he_octet_U32 : SigOk Go.Proofs.Try.prog 45 ⟨[.int .u32], [.sl (.int .u8)], g_octet_U32⟩) (he_octet_U64 : SigOk Go.Proofs.Try.prog 46 ⟨[.int .u64], [.sl (.int .u8)], g_octet_U64⟩) (he_octet_U16 : SigOk Go.Proofs.Try.prog 42 ⟨[.int .u16], [.sl (.int .u8)], g_octet_U16⟩) (he_octet_Join : SigOk Go.Proofs.Try.prog 28 ⟨[.sls (.int .u8)], [.sl (.int .u8)], g_octet_Join⟩) {g : Ds [.cat [.int .i64, .int .i64, .int .u32, .int .u32, .int .u64, .int .u64, .sl (.int .u8), .sl (.int .u8), .sl (.int .u8), .sl (.int .u8)]] → Option (Rs [.sl (.int .u8)])} (hg : ∀ x r, g x = some r → ∃ N, p_capsule_said N x = some r) : SigOk Go.Proofs.Try.prog 34 ⟨[.cat [.int .i64, .int .i64, .int .u32, .int .u32, .int .u64, .int .u64, .sl (.int .u8), .sl (.int .u8), .sl (.int .u8), .sl (.int .u8)]], [.sl (.int .u8)], g⟩ :=
  fun_of (E := p_capsule_said_E) (H := p_capsule_said_H) (L := fun N => LT.nil) (c := p_capsule_said_c) (ks := p_capsule_said_ks) (rs := p_capsule_said_rs) (F := p_capsule_said) (p_capsule_said_Eok he_octet_U32 he_octet_U64 he_octet_U16 he_octet_Join) mix Go.Proofs.Try.func34 (by kernel_rfl) (fun N => OkAll.nil) p_capsule_said_eq hg

/-! livery/capsule.Said -/
noncomputable def p_capsule_Said_E : AE := AE.of [(37, ty37)] [(33, ⟨[.cat [.int .i64, .int .i64, .int .u32, .int .u32, .int .u64, .int .u64, .sl (.int .u8), .sl (.int .u8), .sl (.int .u8), .sl (.int .u8)]], [.bool], g_capsule_spoken⟩), (34, ⟨[.cat [.int .i64, .int .i64, .int .u32, .int .u32, .int .u64, .int .u64, .sl (.int .u8), .sl (.int .u8), .sl (.int .u8), .sl (.int .u8)]], [.sl (.int .u8)], g_capsule_said⟩)]
noncomputable def p_capsule_Said_H : Hints := [(3000000, [2])]
noncomputable def p_capsule_Said_c : Code := (Go.Proofs.Try.f21).body.getD .skip
abbrev p_capsule_Said_ks : List Kd := [.cat [.int .i64, .int .i64, .int .u32, .int .u32, .int .u64, .int .u64, .sl (.int .u8), .sl (.int .u8), .sl (.int .u8), .sl (.int .u8)]]
abbrev p_capsule_Said_rs : List Kd := [.sl (.int .u8)]
noncomputable def p_capsule_Said (N : Nat) (x : (Int × Int × Int × Int × Int × Int × List Int × List Int × List Int × List Int × Unit) × Unit) : Option (List Int) :=
  (g_capsule_spoken ((x.1.1, x.1.2.1, x.1.2.2.1, x.1.2.2.2.1, x.1.2.2.2.2.1, x.1.2.2.2.2.2.1, x.1.2.2.2.2.2.2.1, x.1.2.2.2.2.2.2.2.1, x.1.2.2.2.2.2.2.2.2.1, x.1.2.2.2.2.2.2.2.2.2.1, ()), ())).bind fun r1 => (
  if (¬ (r1 = true)) then
    some []
  else
    (g_capsule_said ((x.1.1, x.1.2.1, x.1.2.2.1, x.1.2.2.2.1, x.1.2.2.2.2.1, x.1.2.2.2.2.2.1, x.1.2.2.2.2.2.2.1, x.1.2.2.2.2.2.2.2.1, x.1.2.2.2.2.2.2.2.2.1, x.1.2.2.2.2.2.2.2.2.2.1, ()), ())).bind fun r2 => (
    some r2))
theorem p_capsule_Said_eq (N : Nat) (x : Ds [.cat [.int .i64, .int .i64, .int .u32, .int .u32, .int .u64, .int .u64, .sl (.int .u8), .sl (.int .u8), .sl (.int .u8), .sl (.int .u8)]]) : funL p_capsule_Said_E p_capsule_Said_H (LT.nil) N Go.Proofs.Try.f21 p_capsule_Said_c [.cat [.int .i64, .int .i64, .int .u32, .int .u32, .int .u64, .int .u64, .sl (.int .u8), .sl (.int .u8), .sl (.int .u8), .sl (.int .u8)]] [.sl (.int .u8)] x = p_capsule_Said N x := by kernel_rfl
theorem p_capsule_Said_Eok (he_capsule_spoken : SigOk Go.Proofs.Try.prog 33 ⟨[.cat [.int .i64, .int .i64, .int .u32, .int .u32, .int .u64, .int .u64, .sl (.int .u8), .sl (.int .u8), .sl (.int .u8), .sl (.int .u8)]], [.bool], g_capsule_spoken⟩) (he_capsule_said : SigOk Go.Proofs.Try.prog 34 ⟨[.cat [.int .i64, .int .i64, .int .u32, .int .u32, .int .u64, .int .u64, .sl (.int .u8), .sl (.int .u8), .sl (.int .u8), .sl (.int .u8)]], [.sl (.int .u8)], g_capsule_said⟩) : p_capsule_Said_E.Ok Go.Proofs.Try.prog := AE.of_ok (all_cons ty37_ok all_nil) (all_cons ⟨he_capsule_spoken, enters_capsule_spoken⟩ (all_cons ⟨he_capsule_said, enters_capsule_said⟩ all_nil))
theorem p_capsule_Said_ok (he_capsule_spoken : SigOk Go.Proofs.Try.prog 33 ⟨[.cat [.int .i64, .int .i64, .int .u32, .int .u32, .int .u64, .int .u64, .sl (.int .u8), .sl (.int .u8), .sl (.int .u8), .sl (.int .u8)]], [.bool], g_capsule_spoken⟩) (he_capsule_said : SigOk Go.Proofs.Try.prog 34 ⟨[.cat [.int .i64, .int .i64, .int .u32, .int .u32, .int .u64, .int .u64, .sl (.int .u8), .sl (.int .u8), .sl (.int .u8), .sl (.int .u8)]], [.sl (.int .u8)], g_capsule_said⟩) {g : Ds [.cat [.int .i64, .int .i64, .int .u32, .int .u32, .int .u64, .int .u64, .sl (.int .u8), .sl (.int .u8), .sl (.int .u8), .sl (.int .u8)]] → Option (Rs [.sl (.int .u8)])} (hg : ∀ x r, g x = some r → ∃ N, p_capsule_Said N x = some r) : SigOk Go.Proofs.Try.prog 21 ⟨[.cat [.int .i64, .int .i64, .int .u32, .int .u32, .int .u64, .int .u64, .sl (.int .u8), .sl (.int .u8), .sl (.int .u8), .sl (.int .u8)]], [.sl (.int .u8)], g⟩ :=
  fun_of (E := p_capsule_Said_E) (H := p_capsule_Said_H) (L := fun N => LT.nil) (c := p_capsule_Said_c) (ks := p_capsule_Said_ks) (rs := p_capsule_Said_rs) (F := p_capsule_Said) (p_capsule_Said_Eok he_capsule_spoken he_capsule_said) mix Go.Proofs.Try.func21 (by kernel_rfl) (fun N => OkAll.nil) p_capsule_Said_eq hg

/-! livery/liverylaw23.live -/
noncomputable def p_law23_live_E : AE := AE.of [(3, ty3), (5, ty5), (22, ty22), (23, ty23), (32, ty32), (33, ty33), (35, ty35), (37, ty37)] [(9, ⟨[.sl (.int .u8), .int .i64], [.sls (.int .u8), .int .i64], g_capsule_Chunks⟩), (21, ⟨[.cat [.int .i64, .int .i64, .int .u32, .int .u32, .int .u64, .int .u64, .sl (.int .u8), .sl (.int .u8), .sl (.int .u8), .sl (.int .u8)]], [.sl (.int .u8)], g_capsule_Said⟩), (11, ⟨[.sl (.int .u8), .sl (.int .u8)], [.bool], g_ref01_Equal⟩)]
noncomputable def p_law23_live_H : Hints := [(3000000, [0])]
noncomputable def p_law23_live_c : Code := (Go.Proofs.Try.f8).body.getD .skip
abbrev p_law23_live_ks : List Kd := []
abbrev p_law23_live_rs : List Kd := [.bool]
noncomputable def p_law23_live (N : Nat) (x : Unit) : Option (Bool) :=
  (g_capsule_Chunks ((List.set (List.set (List.set (List.set (List.set (List.replicate 5 0) 0 (1:Int)) 1 (2:Int)) 2 (3:Int)) 3 (4:Int)) 4 (5:Int)), (2:Int), ())).bind fun r1 => (
  (g_capsule_Said (((List.getD (List.set [0] 0 (1:Int)) 0 0), (List.getD (List.set [0] 0 (2:Int)) 0 0), (List.getD (List.set [0] 0 (3:Int)) 0 0), (List.getD (List.set [0] 0 (4:Int)) 0 0), (List.getD (List.take 1 (List.set (List.set (List.replicate 2 0) 0 (5:Int)) 1 (6:Int))) 0 0), (List.getD (List.drop 1 (List.set (List.set (List.replicate 2 0) 0 (5:Int)) 1 (6:Int))) 0 0), (List.set (List.replicate 1 0) 0 (7:Int)), [], [], [], ()), ())).bind fun r2 => (
  if (((List.length r1.1 : Nat) : Int) = (3:Int)) then
    if (r1.2 = (0:Int)) then
      if 0 ≤ (2:Int) then (
      if (2:Int) < ((List.length r1.1 : Nat) : Int) then (
      (g_ref01_Equal ((List.getD r1.1 2 []), (List.set (List.replicate 1 0) 0 (5:Int)), ())).bind fun r3 => (
      if (r3 = true) then
        if ((((List.length r2) : Nat) : Int) = (29:Int)) then
          if 0 ≤ (0:Int) then (
          if (0:Int) < (((List.length r2) : Nat) : Int) then (
          if 0 < (List.length r2) then (
          if ((List.getD r2 0 0) = (1:Int)) then
            if 0 ≤ (5:Int) then (
            if (5:Int) < (((List.length r2) : Nat) : Int) then (
            if 5 < (List.length r2) then (
            if ((List.getD r2 5 0) = (3:Int)) then
              if 0 ≤ (28:Int) then (
              if (28:Int) < (((List.length r2) : Nat) : Int) then (
              if 28 < (List.length r2) then (
              some (decide ((List.getD r2 28 0) = (7:Int)))) else none) else none) else none
            else
              some false) else none) else none) else none
          else
            some false) else none) else none) else none
        else
          some false
      else
        some false)) else none) else none
    else
      some false
  else
    some false))
theorem p_law23_live_eq (N : Nat) (x : Ds []) : funL p_law23_live_E p_law23_live_H (LT.nil) N Go.Proofs.Try.f8 p_law23_live_c [] [.bool] x = p_law23_live N x := by kernel_rfl
theorem p_law23_live_Eok (he_capsule_Chunks : SigOk Go.Proofs.Try.prog 9 ⟨[.sl (.int .u8), .int .i64], [.sls (.int .u8), .int .i64], g_capsule_Chunks⟩) (he_capsule_Said : SigOk Go.Proofs.Try.prog 21 ⟨[.cat [.int .i64, .int .i64, .int .u32, .int .u32, .int .u64, .int .u64, .sl (.int .u8), .sl (.int .u8), .sl (.int .u8), .sl (.int .u8)]], [.sl (.int .u8)], g_capsule_Said⟩) (he_ref01_Equal : SigOk Go.Proofs.Try.prog 11 ⟨[.sl (.int .u8), .sl (.int .u8)], [.bool], g_ref01_Equal⟩) : p_law23_live_E.Ok Go.Proofs.Try.prog := AE.of_ok (all_cons ty3_ok (all_cons ty5_ok (all_cons ty22_ok (all_cons ty23_ok (all_cons ty32_ok (all_cons ty33_ok (all_cons ty35_ok (all_cons ty37_ok all_nil)))))))) (all_cons ⟨he_capsule_Chunks, enters_capsule_Chunks⟩ (all_cons ⟨he_capsule_Said, enters_capsule_Said⟩ (all_cons ⟨he_ref01_Equal, enters_ref01_Equal⟩ all_nil)))
theorem p_law23_live_ok (he_capsule_Chunks : SigOk Go.Proofs.Try.prog 9 ⟨[.sl (.int .u8), .int .i64], [.sls (.int .u8), .int .i64], g_capsule_Chunks⟩) (he_capsule_Said : SigOk Go.Proofs.Try.prog 21 ⟨[.cat [.int .i64, .int .i64, .int .u32, .int .u32, .int .u64, .int .u64, .sl (.int .u8), .sl (.int .u8), .sl (.int .u8), .sl (.int .u8)]], [.sl (.int .u8)], g_capsule_Said⟩) (he_ref01_Equal : SigOk Go.Proofs.Try.prog 11 ⟨[.sl (.int .u8), .sl (.int .u8)], [.bool], g_ref01_Equal⟩) {g : Ds [] → Option (Rs [.bool])} (hg : ∀ x r, g x = some r → ∃ N, p_law23_live N x = some r) : SigOk Go.Proofs.Try.prog 8 ⟨[], [.bool], g⟩ :=
  fun_of (E := p_law23_live_E) (H := p_law23_live_H) (L := fun N => LT.nil) (c := p_law23_live_c) (ks := p_law23_live_ks) (rs := p_law23_live_rs) (F := p_law23_live) (p_law23_live_Eok he_capsule_Chunks he_capsule_Said he_ref01_Equal) mix Go.Proofs.Try.func8 (by kernel_rfl) (fun N => OkAll.nil) p_law23_live_eq hg

/-! livery/liverylaw23.CapsuleCuts -/
noncomputable def p_law23_CapsuleCuts_E : AE := AE.of [(22, ty22), (23, ty23)] [(8, ⟨[], [.bool], g_law23_live⟩), (9, ⟨[.sl (.int .u8), .int .i64], [.sls (.int .u8), .int .i64], g_capsule_Chunks⟩), (10, ⟨[.sl (.int .u8), .int .i64], [.sls (.int .u8), .int .i64], g_ref23_Chunks⟩), (11, ⟨[.sl (.int .u8), .sl (.int .u8)], [.bool], g_ref01_Equal⟩), (12, ⟨[.sls (.int .u8)], [.sl (.int .u8), .int .i64], g_capsule_Gather⟩), (13, ⟨[.sls (.int .u8)], [.sl (.int .u8), .int .i64], g_ref23_Gather⟩)]
noncomputable def p_law23_CapsuleCuts_H : Hints := [(8, [0, 2, 7, 8, 9, 54, 55]), (2000000, [0, 2, 7, 8]), (2000001, [0, 2, 7, 8, 9, 54, 55]), (3000000, [6])]
noncomputable def p_law23_CapsuleCuts_c : Code := (Go.Proofs.Try.f3).body.getD .skip
noncomputable def p_law23_CapsuleCuts_l8_S : Shape where
  h := { tmps := [.sc (.vec 0 none 1), .any, .sc (.frs (.int .u8)), .any, .any, .any, .any, .sc (.frs (.int .u8)), .sc (.int .i64), .sc (.frs (.int .u8)), .any, .any, .any, .any, .any, .any, .any, .any, .any, .any, .any, .any, .any, .any, .any, .any, .any, .any, .any, .any, .any, .any, .any, .any, .any, .any, .any, .any, .any, .any, .any, .any, .any, .any, .any, .any, .any, .any, .any, .any, .any, .any, .any, .any, .sc (.int .i64), .sc (.int .i64), .any, .any, .any, .any, .any, .any, .any, .any, .any, .any, .any, .any, .any, .any, .any, .any, .any, .any, .any, .any, .any, .any, .any, .any, .any, .any, .any, .any, .any, .any, .any, .any, .any, .any, .any, .any, .any, .any, .any, .any, .any, .any, .any, .any, .any, .any], mem := [.live [.xs (.int .u8) none] (.ro)] }
  ks := [.nat, .xss, .xss, .int, .xss, .int, .int, .nat, .xs]
  st := fun x => { tmps := [.one (.sc (.vec 0 x.1 1)), .one .any, .one (.sc (.fr (.xss (.int .u8) x.2.1))), .one .any, .one .any, .one .any, .one .any, .one (.sc (.fr (.xss (.int .u8) x.2.2.1))), .one (.sc (.int .i64 x.2.2.2.1)), .one (.sc (.fr (.xss (.int .u8) x.2.2.2.2.1))), .one .any, .one .any, .one .any, .one .any, .one .any, .one .any, .one .any, .one .any, .one .any, .one .any, .one .any, .one .any, .one .any, .one .any, .one .any, .one .any, .one .any, .one .any, .one .any, .one .any, .one .any, .one .any, .one .any, .one .any, .one .any, .one .any, .one .any, .one .any, .one .any, .one .any, .one .any, .one .any, .one .any, .one .any, .one .any, .one .any, .one .any, .one .any, .one .any, .one .any, .one .any, .one .any, .one .any, .one .any, .one (.sc (.int .i64 x.2.2.2.2.2.1)), .one (.sc (.int .i64 x.2.2.2.2.2.2.1)), .one .any, .one .any, .one .any, .one .any, .one .any, .one .any, .one .any, .one .any, .one .any, .one .any, .one .any, .one .any, .one .any, .one .any, .one .any, .one .any, .one .any, .one .any, .one .any, .one .any, .one .any, .one .any, .one .any, .one .any, .one .any, .one .any, .one .any, .one .any, .one .any, .one .any, .one .any, .one .any, .one .any, .one .any, .one .any, .one .any, .one .any, .one .any, .one .any, .one .any, .one .any, .one .any, .one .any, .one .any, .one .any, .one .any], mem := [.live { segs := [.xs (.int .u8) x.2.2.2.2.2.2.2.1 x.2.2.2.2.2.2.2.2.1], own := .ro }] }
noncomputable def p_law23_CapsuleCuts_l8_F (N : Nat) (β : Type) (x : (Nat × List (List Int) × List (List Int) × Int × List (List Int) × Int × Int × Nat × List Int × Unit)) (kn : (Nat × List (List Int) × List (List Int) × Int × List (List Int) × Int × Int × Nat × List Int × Unit) → Option β) (ke : ((Bool × Unit) ⊕ (Nat × List (List Int) × List (List Int) × Int × Nat × List Int × Unit)) → Option β) : Option β :=
  if (x.2.2.2.2.2.2.1 < x.2.2.2.2.2.1) then
    if 0 ≤ x.2.2.2.2.2.2.1 then (
    if x.2.2.2.2.2.2.1 < ((List.length x.2.2.1 : Nat) : Int) then (
    if 0 ≤ x.2.2.2.2.2.2.1 then (
    if x.2.2.2.2.2.2.1 < ((List.length x.2.2.2.2.1 : Nat) : Int) then (
    (g_ref01_Equal ((List.getD x.2.2.1 (x.2.2.2.2.2.2.1.toNat) []), (List.getD x.2.2.2.2.1 (x.2.2.2.2.2.2.1.toNat) []), ())).bind fun r7 => (
    if (¬ (r7 = true)) then
      ke (.inl (false, ()))
    else
      kn (x.1, x.2.1, x.2.2.1, x.2.2.2.1, x.2.2.2.2.1, x.2.2.2.2.2.1, (IntKind.i64.wrap (x.2.2.2.2.2.2.1 + (1:Int))), x.2.2.2.2.2.2.2.1, x.2.2.2.2.2.2.2.2.1, ()))) else none) else none) else none) else none
  else
    ke (.inr (x.1, x.2.1, x.2.2.1, x.2.2.2.1, x.2.2.2.2.2.2.2.1, x.2.2.2.2.2.2.2.2.1, ()))
noncomputable def p_law23_CapsuleCuts_l8_go : Go' ((Bool × Unit) ⊕ (Nat × List (List Int) × List (List Int) × Int × Nat × List Int × Unit)) := fun y K => match y with
  | .inl y => K .ret { tmps := [.one .any, .one .any, .one .any, .one .any, .one .any, .one .any, .one (.sc (.known y.1)), .one .any, .one .any, .one .any, .one .any, .one .any, .one .any, .one .any, .one .any, .one .any, .one .any, .one .any, .one .any, .one .any, .one .any, .one .any, .one .any, .one .any, .one .any, .one .any, .one .any, .one .any, .one .any, .one .any, .one .any, .one .any, .one .any, .one .any, .one .any, .one .any, .one .any, .one .any, .one .any, .one .any, .one .any, .one .any, .one .any, .one .any, .one .any, .one .any, .one .any, .one .any, .one .any, .one .any, .one .any, .one .any, .one .any, .one .any, .one .any, .one .any, .one .any, .one .any, .one .any, .one .any, .one .any, .one .any, .one .any, .one .any, .one .any, .one .any, .one .any, .one .any, .one .any, .one .any, .one .any, .one .any, .one .any, .one .any, .one .any, .one .any, .one .any, .one .any, .one .any, .one .any, .one .any, .one .any, .one .any, .one .any, .one .any, .one .any, .one .any, .one .any, .one .any, .one .any, .one .any, .one .any, .one .any, .one .any, .one .any, .one .any, .one .any, .one .any, .one .any, .one .any, .one .any, .one .any], mem := [] }
  | .inr y => K (.exit 0) { tmps := [.one (.sc (.vec 0 y.1 1)), .one .any, .one (.sc (.fr (.xss (.int .u8) y.2.1))), .one .any, .one .any, .one .any, .one .any, .one (.sc (.fr (.xss (.int .u8) y.2.2.1))), .one (.sc (.int .i64 y.2.2.2.1)), .one .any, .one .any, .one .any, .one .any, .one .any, .one .any, .one .any, .one .any, .one .any, .one .any, .one .any, .one .any, .one .any, .one .any, .one .any, .one .any, .one .any, .one .any, .one .any, .one .any, .one .any, .one .any, .one .any, .one .any, .one .any, .one .any, .one .any, .one .any, .one .any, .one .any, .one .any, .one .any, .one .any, .one .any, .one .any, .one .any, .one .any, .one .any, .one .any, .one .any, .one .any, .one .any, .one .any, .one .any, .one .any, .one .any, .one .any, .one .any, .one .any, .one .any, .one .any, .one .any, .one .any, .one .any, .one .any, .one .any, .one .any, .one .any, .one .any, .one .any, .one .any, .one .any, .one .any, .one .any, .one .any, .one .any, .one .any, .one .any, .one .any, .one .any, .one .any, .one .any, .one .any, .one .any, .one .any, .one .any, .one .any, .one .any, .one .any, .one .any, .one .any, .one .any, .one .any, .one .any, .one .any, .one .any, .one .any, .one .any, .one .any, .one .any, .one .any, .one .any, .one .any], mem := [.live { segs := [.xs (.int .u8) y.2.2.2.2.1 y.2.2.2.2.2.1], own := .ro }] }
noncomputable def p_law23_CapsuleCuts_l8_L (N : Nat) : LT := upd (LT.nil) 8 (loopE p_law23_CapsuleCuts_l8_S N (p_law23_CapsuleCuts_l8_F N) p_law23_CapsuleCuts_l8_go)
theorem p_law23_CapsuleCuts_l8_ok (N : Nat) : OkAll p_law23_CapsuleCuts_E p_law23_CapsuleCuts_H N (p_law23_CapsuleCuts_l8_L N) (subs p_law23_CapsuleCuts_c) :=
  addLoop (c := theLoop 8 p_law23_CapsuleCuts_c) (OkAll.nil) (by kernel_rfl) (fun x => by kernel_rfl) (fun β x kn ke => by kernel_rfl)
abbrev p_law23_CapsuleCuts_ks : List Kd := [.sl (.int .u8), .int .i64, .sls (.int .u8)]
abbrev p_law23_CapsuleCuts_rs : List Kd := [.bool]
noncomputable def p_law23_CapsuleCuts (N : Nat) (x : List Int × Int × List (List Int) × Unit) : Option (Bool) :=
  (g_law23_live (())).bind fun r1 => (
  if (¬ (r1 = true)) then
    (g_law23_live (())).bind fun r2 => (
    some (decide (r2 = true)))
  else
    if ((((List.length x.1) : Nat) : Int) > (300000:Int)) then
      (g_law23_live (())).bind fun r3 => (
      some (decide (r3 = true)))
    else
      if (((List.length x.2.2.1 : Nat) : Int) > (1000:Int)) then
        (g_law23_live (())).bind fun r4 => (
        some (decide (r4 = true)))
      else
        (g_capsule_Chunks (x.1, x.2.1, ())).bind fun r5 => (
        (g_ref23_Chunks (x.1, x.2.1, ())).bind fun r6 => (
        if (r5.2 ≠ r6.2) then
          some false
        else
          if (((List.length r5.1 : Nat) : Int) ≠ ((List.length r6.1 : Nat) : Int)) then
            some false
          else
            iter (p_law23_CapsuleCuts_l8_F N) N ((List.length x.1), x.2.2.1, r5.1, r5.2, r6.1, ((List.length r6.1 : Nat) : Int), (0:Int), (List.length x.1), x.1, ()) fun y => (match y with
            | .inl y8 => (
              some y8.1)
            | .inr y9 => (
              (g_capsule_Gather (y9.2.1, ())).bind fun r10 => (
              (g_ref23_Gather (y9.2.1, ())).bind fun r11 => (
              (g_ref01_Equal (r10.1, r11.1, ())).bind fun r12 => (
              if (¬ (r12 = true)) then
                some false
              else
                if (r10.2 ≠ r11.2) then
                  some false
                else
                  if (y9.2.2.2.1 ≠ (0:Int)) then
                    some true
                  else
                    (g_capsule_Gather (y9.2.2.1, ())).bind fun r13 => (
                    if (r13.2 = (0:Int)) then
                      (g_ref01_Equal (r13.1, y9.2.2.2.2.2.1, ())).bind fun r14 => (
                      some (decide (r14 = true)))
                    else
                      some false)))))))))
theorem p_law23_CapsuleCuts_eq (N : Nat) (x : Ds [.sl (.int .u8), .int .i64, .sls (.int .u8)]) : funL p_law23_CapsuleCuts_E p_law23_CapsuleCuts_H (p_law23_CapsuleCuts_l8_L N) N Go.Proofs.Try.f3 p_law23_CapsuleCuts_c [.sl (.int .u8), .int .i64, .sls (.int .u8)] [.bool] x = p_law23_CapsuleCuts N x := by kernel_rfl
theorem p_law23_CapsuleCuts_Eok (he_law23_live : SigOk Go.Proofs.Try.prog 8 ⟨[], [.bool], g_law23_live⟩) (he_capsule_Chunks : SigOk Go.Proofs.Try.prog 9 ⟨[.sl (.int .u8), .int .i64], [.sls (.int .u8), .int .i64], g_capsule_Chunks⟩) (he_ref23_Chunks : SigOk Go.Proofs.Try.prog 10 ⟨[.sl (.int .u8), .int .i64], [.sls (.int .u8), .int .i64], g_ref23_Chunks⟩) (he_ref01_Equal : SigOk Go.Proofs.Try.prog 11 ⟨[.sl (.int .u8), .sl (.int .u8)], [.bool], g_ref01_Equal⟩) (he_capsule_Gather : SigOk Go.Proofs.Try.prog 12 ⟨[.sls (.int .u8)], [.sl (.int .u8), .int .i64], g_capsule_Gather⟩) (he_ref23_Gather : SigOk Go.Proofs.Try.prog 13 ⟨[.sls (.int .u8)], [.sl (.int .u8), .int .i64], g_ref23_Gather⟩) : p_law23_CapsuleCuts_E.Ok Go.Proofs.Try.prog := AE.of_ok (all_cons ty22_ok (all_cons ty23_ok all_nil)) (all_cons ⟨he_law23_live, enters_law23_live⟩ (all_cons ⟨he_capsule_Chunks, enters_capsule_Chunks⟩ (all_cons ⟨he_ref23_Chunks, enters_ref23_Chunks⟩ (all_cons ⟨he_ref01_Equal, enters_ref01_Equal⟩ (all_cons ⟨he_capsule_Gather, enters_capsule_Gather⟩ (all_cons ⟨he_ref23_Gather, enters_ref23_Gather⟩ all_nil))))))
theorem p_law23_CapsuleCuts_ok (he_law23_live : SigOk Go.Proofs.Try.prog 8 ⟨[], [.bool], g_law23_live⟩) (he_capsule_Chunks : SigOk Go.Proofs.Try.prog 9 ⟨[.sl (.int .u8), .int .i64], [.sls (.int .u8), .int .i64], g_capsule_Chunks⟩) (he_ref23_Chunks : SigOk Go.Proofs.Try.prog 10 ⟨[.sl (.int .u8), .int .i64], [.sls (.int .u8), .int .i64], g_ref23_Chunks⟩) (he_ref01_Equal : SigOk Go.Proofs.Try.prog 11 ⟨[.sl (.int .u8), .sl (.int .u8)], [.bool], g_ref01_Equal⟩) (he_capsule_Gather : SigOk Go.Proofs.Try.prog 12 ⟨[.sls (.int .u8)], [.sl (.int .u8), .int .i64], g_capsule_Gather⟩) (he_ref23_Gather : SigOk Go.Proofs.Try.prog 13 ⟨[.sls (.int .u8)], [.sl (.int .u8), .int .i64], g_ref23_Gather⟩) {g : Ds [.sl (.int .u8), .int .i64, .sls (.int .u8)] → Option (Rs [.bool])} (hg : ∀ x r, g x = some r → ∃ N, p_law23_CapsuleCuts N x = some r) : SigOk Go.Proofs.Try.prog 3 ⟨[.sl (.int .u8), .int .i64, .sls (.int .u8)], [.bool], g⟩ :=
  fun_of (E := p_law23_CapsuleCuts_E) (H := p_law23_CapsuleCuts_H) (L := fun N => p_law23_CapsuleCuts_l8_L N) (c := p_law23_CapsuleCuts_c) (ks := p_law23_CapsuleCuts_ks) (rs := p_law23_CapsuleCuts_rs) (F := p_law23_CapsuleCuts) (p_law23_CapsuleCuts_Eok he_law23_live he_capsule_Chunks he_ref23_Chunks he_ref01_Equal he_capsule_Gather he_ref23_Gather) mix Go.Proofs.Try.func3 (by kernel_rfl) (fun N => p_law23_CapsuleCuts_l8_ok N) p_law23_CapsuleCuts_eq hg
end Go.Ax.TryP
/-! ### Texts joined, cut and gathered -/
set_option linter.unusedVariables false
namespace Go.Ax.TryP
def bytes (zs : List Int) : Prop := ∀ z ∈ zs, 0 ≤ z ∧ z ≤ 255
def rowsOk (l : List (List Int)) : Prop := l.length ≤ maxLen ∧ ∀ zs ∈ l, zs.length ≤ maxLen ∧ bytes zs
theorem wf_rows {l : List (List Int)} : Kd.wf (.sls (.int .u8)) l ↔ rowsOk l := by simp [Kd.wf, rowsOk, bytes, okInt_u8]
theorem wf_b1 {b : List Int} : Kd.wf (.sl (.int .u8)) b ↔ b.length ≤ maxLen ∧ bytes b := by simp only [wf_bytes]; exact Iff.rfl
theorem flat_one {l : List (List Int)} {i : Nat} (hi : i < l.length) : (l.take (i + 1)).flatten = (l.take i).flatten ++ l.getD i [] := by
  rw [List.take_succ_eq_append_getElem hi, List.flatten_append, List.getD_eq_getElem?_getD, List.getElem?_eq_getElem hi]; simp
theorem flat_le (l : List (List Int)) (i : Nat) : (l.take i).flatten.length ≤ l.flatten.length := by
  conv => rhs; rw [← List.take_append_drop i l, List.flatten_append, List.length_append]
  omega
theorem flat_bytes {l : List (List Int)} (h : rowsOk l) : bytes l.flatten := fun z hz => by
  obtain ⟨zs, h1, h2⟩ := List.mem_flatten.1 hz
  exact (h.2 zs h1).2 z h2
theorem q_ref01_Join : ∀ x r, g_ref01_Join x = some r → ∃ N, p_ref01_Join N x = some r := by
  refine Spec_of (ks := p_ref01_Join_ks) (rs := p_ref01_Join_rs) fun x hw hq => ?_
  obtain ⟨(l : List (List Int)), u⟩ := x
  obtain ⟨hq1, hq⟩ : l.length ≤ 1000 ∧ l.flatten.length ≤ 1000000 := hq
  refine ⟨l.length + 1, ?_⟩
  unfold p_ref01_Join
  dsimp only
  refine (iter_from (F := p_ref01_Join_l3_F (l.length + 1)) (s := fun i => ((l.take i).flatten.length, l, (l.length : Int), (i : Int), (l.take i).flatten.length, (l.take i).flatten, ()))
    (y := (l.flatten.length, l.flatten.length, l.flatten, ())) l.length rfl ?_ ?_ _ (by omega)).trans ?_
  · intro i hi kn
    have h1 := flat_le l (i + 1)
    rw [flat_one hi] at h1 ⊢
    rw [List.length_append] at h1 ⊢
    unfold p_ref01_Join_l3_F
    dsimp only
    rw [if_pos (by omega), if_pos (by omega), if_pos (by omega), Int.toNat_natCast, if_pos (by omega), wrap_i64 (by omega) (by omega)]
    rfl
  · intro kn
    unfold p_ref01_Join_l3_F
    dsimp only
    rw [if_neg (by omega), List.take_length]
  · rfl
theorem q_octet_Join : ∀ x r, g_octet_Join x = some r → ∃ N, p_octet_Join N x = some r := by
  refine Spec_of (ks := p_octet_Join_ks) (rs := p_octet_Join_rs) fun x hw hq => ?_
  obtain ⟨(l : List (List Int)), u⟩ := x
  obtain ⟨hq1, hq⟩ : l.length ≤ 1000 ∧ l.flatten.length ≤ 1000000 := hq
  refine ⟨l.length + 1, ?_⟩
  unfold p_octet_Join
  dsimp only
  refine (iter_from (F := p_octet_Join_l3_F (l.length + 1)) (s := fun i => (l, ((l.take i).flatten.length : Int), l, (l.length : Int), (i : Int), ())) (y := (l, (l.flatten.length : Int), ())) l.length rfl ?_ ?_ _ (by omega)).trans ?_
  · intro i hi kn
    have h1 := flat_le l (i + 1)
    rw [flat_one hi] at h1 ⊢
    rw [List.length_append] at h1 ⊢
    unfold p_octet_Join_l3_F
    dsimp only
    rw [if_pos (by omega), if_pos (by omega), if_pos (by omega), Int.toNat_natCast, wrap_i64 (by omega) (by omega), wrap_i64 (by omega) (by omega), Int.natCast_add]
    rfl
  · intro kn
    unfold p_octet_Join_l3_F
    dsimp only
    rw [if_neg (by omega), List.take_length]
  dsimp only
  rw [if_pos (by omega), if_pos (by omega), if_pos (by omega)]
  refine (iter_from (F := p_octet_Join_l9_F (l.length + 1)) (s := fun i => ((l.take i).flatten.length, l, (l.length : Int), (i : Int), (l.take i).flatten.length, (l.take i).flatten, ()))
    (y := (l.flatten.length, l.flatten.length, l.flatten, ())) l.length rfl ?_ ?_ _ (by omega)).trans ?_
  · intro i hi kn
    have h1 := flat_le l (i + 1)
    rw [flat_one hi] at h1 ⊢
    rw [List.length_append] at h1 ⊢
    unfold p_octet_Join_l9_F
    dsimp only
    rw [if_pos (by omega), if_pos (by omega), if_pos (by omega), Int.toNat_natCast, if_pos (by omega), wrap_i64 (by omega) (by omega)]
    rfl
  · intro kn
    unfold p_octet_Join_l9_F
    dsimp only
    rw [if_neg (by omega), List.take_length]
  · rfl
theorem at_Join {l : List (List Int)} (h : l.length ≤ 1000 ∧ l.flatten.length ≤ 1000000) (hr : rowsOk l) : g_octet_Join (l, ()) = some l.flatten :=
  Spec_at (ks := p_octet_Join_ks) (rs := p_octet_Join_rs) (x := (l, ())) ⟨wf_rows.2 hr, trivial⟩ h
theorem at_Join' {l : List (List Int)} (h : l.length ≤ 1000 ∧ l.flatten.length ≤ 1000000) (hr : rowsOk l) : g_ref01_Join (l, ()) = some l.flatten :=
  Spec_at (ks := p_ref01_Join_ks) (rs := p_ref01_Join_rs) (x := (l, ())) ⟨wf_rows.2 hr, trivial⟩ h
theorem q_ref01_Equal : ∀ x r, g_ref01_Equal x = some r → ∃ N, p_ref01_Equal N x = some r := by
  refine Spec_of (ks := p_ref01_Equal_ks) (rs := p_ref01_Equal_rs) fun x hw hq => ⟨0, ?_⟩
  obtain ⟨(a : List Int), (b : List Int), u⟩ := x
  unfold p_ref01_Equal
  exact congrArg some (eq_of_bytes (wf_b1.1 hw.1).2 (wf_b1.1 hw.2.1).2)
theorem at_Equal {a b : List Int} (ha : a.length ≤ 1000000 ∧ bytes a) (hb : b.length ≤ 1000000 ∧ bytes b) : g_ref01_Equal (a, b, ()) = some (decide (a = b)) := by
  have hM : 1000000 ≤ maxLen := by decide
  exact Spec_at (ks := p_ref01_Equal_ks) (rs := p_ref01_Equal_rs) (x := (a, b, ())) ⟨(wf_b1 (b := a)).2 ⟨by omega, ha.2⟩, (wf_b1 (b := b)).2 ⟨by omega, hb.2⟩, trivial⟩ trivial
theorem cut_len (b : List Int) (s : Nat) : ∀ n, (cutN b s n).length = n
  | 0 => rfl
  | n + 1 => by rw [cutN, List.length_append, cut_len b s n]; rfl
theorem cut_flat (b : List Int) (s : Nat) : ∀ n, (cutN b s n).flatten = b.take (n * s)
  | 0 => by simp [cutN]
  | n + 1 => by
    rw [cutN, List.flatten_append, cut_flat b s n, Nat.succ_mul, List.take_add]
    simp
theorem pieces_spec {n s i : Nat} (hs : 1 ≤ s) : i < pieces n s ↔ i * s < n := by
  unfold pieces
  rw [Nat.lt_div_iff_mul_lt (by omega)]
  omega
theorem sub_bytes {b : List Int} (h : bytes b) (i n : Nat) : bytes ((b.drop i).take n) := fun z hz => h z (List.mem_of_mem_drop (List.mem_of_mem_take hz))
theorem one_row {r : List Int} (h : r.length ≤ 1000000 ∧ bytes r) : rowsOk [r] := by
  have hM : 1000000 ≤ maxLen := by decide
  exact ⟨by simp only [List.length_cons, List.length_nil]; omega, fun zs hz => by rw [List.mem_singleton.1 hz]; exact ⟨by omega, h.2⟩⟩
theorem one_flat (r : List Int) : [r].flatten = r := by simp
theorem take_min {b : List Int} {i s : Nat} : ((b.drop i).take (min b.length (i + s) - i)) = (b.drop i).take s := by
  by_cases h : i + s ≤ b.length
  · rw [Nat.min_eq_right h, show i + s - i = s by omega]
  · rw [Nat.min_eq_left (by omega), List.take_of_length_le (by rw [List.length_drop]; omega), List.take_of_length_le (by rw [List.length_drop]; omega)]
theorem q_capsule_Chunks : ∀ x r, g_capsule_Chunks x = some r → ∃ N, p_capsule_Chunks N x = some r := by
  refine Spec_of (ks := p_capsule_Chunks_ks) (rs := p_capsule_Chunks_rs) fun x hw hq => ?_
  obtain ⟨(b : List Int), (size : Int), u⟩ := x
  have hq : b.length ≤ 1000000 := hq
  have hb : bytes b := (wf_b1.1 hw.1).2
  refine ⟨b.length + 2, ?_⟩
  unfold p_capsule_Chunks chunkS
  dsimp only
  by_cases h1 : size < 1
  · rw [if_pos h1, if_pos (.inl h1)]
  by_cases h2 : 1024 < size
  · rw [if_neg h1, if_pos h2, if_pos (.inr h2)]
  rw [if_neg h1, if_neg h2, if_neg (by omega : ¬(size < 1 ∨ 1024 < size))]
  by_cases h3 : b.length = 0
  · rw [if_pos (by omega), if_pos h3]
  obtain ⟨s, rfl⟩ : ∃ s : Nat, size = s := ⟨size.toNat, by omega⟩
  have hd : ((b.length : Int) - 1).tdiv s = (((b.length - 1) / s : Nat) : Int) := by
    rw [tdiv_pos (by omega), show (b.length : Int) - 1 = ((b.length - 1 : Nat) : Int) by omega]
    simp
  have hdl : (b.length - 1) / s ≤ b.length - 1 := Nat.div_le_self _ _
  have hdm : (256 ≤ (b.length - 1) / s) ↔ 256 * s < b.length := by rw [Nat.le_div_iff_mul_le (by omega)]; omega
  rw [if_neg (by omega), if_neg h3, if_neg (by omega), wrap_i64 (x := (b.length : Int) - 1) (by omega) (by omega), hd, Int.toNat_natCast]
  generalize (b.length - 1) / s = q at hdl hdm
  rw [wrap_i64 (by omega) (by omega)]
  by_cases h4 : 256 * s < b.length
  · rw [if_pos (by omega), if_pos (by omega)]
  rw [if_neg (by omega), if_neg (by omega)]
  have hp : pieces b.length s ≤ b.length := by
    rcases Nat.lt_or_ge b.length (pieces b.length s) with h | h
    · have := (pieces_spec (n := b.length) (s := s) (by omega)).1 h
      have := Nat.le_mul_of_pos_right b.length (show 0 < s by omega)
      omega
    · exact h
  refine (iter_from (F := p_capsule_Chunks_l9_F (b.length + 2)) (s := fun i => (b.length, (s : Int), i, ((i * s : Nat) : Int), b.length, b, cutN b s i, ())) (y := (pieces b.length s, cutN b s (pieces b.length s), ())) (pieces b.length s) ?_ ?_ ?_ (b.length + 2) (by omega)).trans ?_
  · rw [Nat.zero_mul]; rfl
  · intro i hi kn
    have hi2 := (pieces_spec (n := b.length) (s := s) (by omega)).1 hi
    have ea : ((i * s : Nat) : Int) + (s : Int) = ((i * s + s : Nat) : Int) := by simp
    unfold p_capsule_Chunks_l9_F
    dsimp only
    rw [if_pos (by omega), ea, wrap_i64 (x := ((i * s + s : Nat) : Int)) (by omega) (by omega)]
    have em : (if ((b.length : Nat) : Int) < ((i * s + s : Nat) : Int) then ((b.length : Nat) : Int) else ((i * s + s : Nat) : Int)) = ((min b.length (i * s + s) : Nat) : Int) := by split <;> omega
    rw [em, if_pos (by omega), if_pos (by omega), if_pos (by omega), Int.toNat_natCast, Int.toNat_natCast, if_pos (by omega), subN_eq, take_min]
    have hlen : ((b.drop (i * s)).take s).length ≤ 1000000 := by rw [List.length_take, List.length_drop]; omega
    rw [at_Join ⟨by simp, by rw [one_flat]; exact hlen⟩ (one_row ⟨hlen, sub_bytes hb _ _⟩), Option.bind_some, one_flat, if_pos (by omega), Nat.succ_mul]
    rfl
  · intro kn
    have hn : ¬ pieces b.length s * s < b.length := fun h => absurd ((pieces_spec (n := b.length) (s := s) (by omega)).2 h) (Nat.lt_irrefl _)
    unfold p_capsule_Chunks_l9_F
    dsimp only
    rw [if_neg (by omega)]
  · rfl
theorem q_ref23_Chunks : ∀ x r, g_ref23_Chunks x = some r → ∃ N, p_ref23_Chunks N x = some r := by
  refine Spec_of (ks := p_ref23_Chunks_ks) (rs := p_ref23_Chunks_rs) fun x hw hq => ?_
  obtain ⟨(b : List Int), (size : Int), u⟩ := x
  have hq : b.length ≤ 1000000 := hq
  have hb : bytes b := (wf_b1.1 hw.1).2
  refine ⟨b.length + 2, ?_⟩
  unfold p_ref23_Chunks chunkS
  dsimp only
  by_cases h1 : size < 1
  · rw [if_pos h1, if_pos (.inl h1)]
  by_cases h2 : 1024 < size
  · rw [if_neg h1, if_pos h2, if_pos (.inr h2)]
  rw [if_neg h1, if_neg h2, if_neg (by omega : ¬(size < 1 ∨ 1024 < size))]
  by_cases h3 : b.length = 0
  · rw [if_pos (by omega), if_pos h3]
  obtain ⟨s, rfl⟩ : ∃ s : Nat, size = s := ⟨size.toNat, by omega⟩
  rw [if_neg (by omega), if_neg h3, wrap_i64 (by omega) (by omega), Int.toNat_natCast]
  by_cases h4 : 256 * s < b.length
  · rw [if_pos (by omega), if_pos (by omega)]
  rw [if_neg (by omega), if_neg (by omega)]
  have hp : pieces b.length s ≤ b.length := by
    rcases Nat.lt_or_ge b.length (pieces b.length s) with h | h
    · have := (pieces_spec (n := b.length) (s := s) (by omega)).1 h
      have := Nat.le_mul_of_pos_right b.length (show 0 < s by omega)
      omega
    · exact h
  refine (iter_from (F := p_ref23_Chunks_l9_F (b.length + 2)) (s := fun i => (b.length, (s : Int), i, ((i * s : Nat) : Int), b.length, b, cutN b s i, ())) (y := (pieces b.length s, cutN b s (pieces b.length s), ())) (pieces b.length s) ?_ ?_ ?_ (b.length + 2) (by omega)).trans ?_
  · rw [Nat.zero_mul]; rfl
  · intro i hi kn
    have hi2 := (pieces_spec (n := b.length) (s := s) (by omega)).1 hi
    have ea : ((i * s : Nat) : Int) + (s : Int) = ((i * s + s : Nat) : Int) := by simp
    unfold p_ref23_Chunks_l9_F
    dsimp only
    rw [if_pos (by omega), ea, wrap_i64 (x := ((i * s + s : Nat) : Int)) (by omega) (by omega)]
    have em : (if ((b.length : Nat) : Int) < ((i * s + s : Nat) : Int) then ((b.length : Nat) : Int) else ((i * s + s : Nat) : Int)) = ((min b.length (i * s + s) : Nat) : Int) := by split <;> omega
    rw [em, if_pos (by omega), if_pos (by omega), if_pos (by omega), Int.toNat_natCast, Int.toNat_natCast, if_pos (by omega), subN_eq, take_min]
    have hlen : ((b.drop (i * s)).take s).length ≤ 1000000 := by rw [List.length_take, List.length_drop]; omega
    rw [at_Join' ⟨by simp, by rw [one_flat]; exact hlen⟩ (one_row ⟨hlen, sub_bytes hb _ _⟩), Option.bind_some, one_flat, if_pos (by omega), Nat.succ_mul]
    rfl
  · intro kn
    have hn : ¬ pieces b.length s * s < b.length := fun h => absurd ((pieces_spec (n := b.length) (s := s) (by omega)).2 h) (Nat.lt_irrefl _)
    unfold p_ref23_Chunks_l9_F
    dsimp only
    rw [if_neg (by omega)]
  · rfl
end Go.Ax.TryP
/-! ### Pieces gathered -/
set_option linter.unusedVariables false
namespace Go.Ax.TryP
abbrev pE (r : List Int) : Bool := decide (r.length = 0)
abbrev pL (r : List Int) : Bool := decide (1024 < r.length)
theorem any_one {l : List (List Int)} (p : List Int → Bool) {i : Nat} (hi : i < l.length) : (l.take (i + 1)).any p = ((l.take i).any p || p (l.getD i [])) := by
  rw [List.take_succ_eq_append_getElem hi, List.any_append, List.getD_eq_getElem?_getD, List.getElem?_eq_getElem hi]; simp
def eV (l : List (List Int)) (e0 : Int) (i : Nat) : Int := if (l.take i).any pE = true then 4 else e0
def lV (l : List (List Int)) (b0 : Bool) (i : Nat) : Bool := b0 || (l.take i).any pL
theorem eV_succ {l : List (List Int)} {e0 : Int} {i : Nat} (hi : i < l.length) : eV l e0 (i + 1) = if ((l.getD i []).length : Int) = 0 then 4 else eV l e0 i := by
  unfold eV
  rw [any_one pE hi]
  by_cases h : (l.getD i []).length = 0
  · have : pE (l.getD i []) = true := by simp only [pE, decide_eq_true_eq]; exact h
    rw [this, Bool.or_true, if_pos rfl, if_pos (by omega)]
  · rw [if_neg (by omega : ¬((l.getD i []).length : Int) = 0)]
    have : pE (l.getD i []) = false := by simp only [pE, decide_eq_false_iff_not]; exact h
    rw [this, Bool.or_false]
theorem lV_succ {l : List (List Int)} {b0 : Bool} {i : Nat} (hi : i < l.length) : lV l b0 (i + 1) = if lV l b0 i = true then true else decide (((l.getD i []).length : Int) > 1024) := by
  unfold lV
  rw [any_one pL hi, ← Bool.or_assoc]
  cases (b0 || (l.take i).any pL) with
  | true => rfl
  | false =>
    rw [if_neg (by simp), Bool.false_or]
    exact decide_eq_decide.2 (by omega)
theorem gather_loop {l : List (List Int)} (hl : l.length ≤ 1000) {e0 : Int} {b0 : Bool} {N : Nat} (hN : l.length < N) {β : Type} (K : _ → Option β) :
    iter (p_capsule_Gather_l6_F N) N (l, e0, b0, l, (l.length : Int), (0 : Int), ()) K = K (l, eV l e0 l.length, lV l b0 l.length, ()) := by
  refine iter_from (F := p_capsule_Gather_l6_F N) (s := fun i => (l, eV l e0 i, lV l b0 i, l, (l.length : Int), (i : Int), ())) (y := (l, eV l e0 l.length, lV l b0 l.length, ())) l.length ?_ ?_ ?_ N hN
  · show (l, eV l e0 0, lV l b0 0, l, (l.length : Int), ((0 : Nat) : Int), ()) = _
    have h1 : eV l e0 0 = e0 := by unfold eV; rw [List.take_zero]; rfl
    have h2 : lV l b0 0 = b0 := by unfold lV; rw [List.take_zero]; simp
    rw [h1, h2]
    rfl
  · intro i hi kn
    rw [eV_succ hi, lV_succ hi]
    unfold p_capsule_Gather_l6_F
    dsimp only
    rw [if_pos (by omega), if_pos (by omega), if_pos (by omega), Int.toNat_natCast, wrap_i64 (by omega) (by omega)]
    by_cases h : ((l.getD i []).length : Int) = 0
    · rw [if_pos h, if_pos h]
      by_cases g : lV l b0 i = true
      · rw [if_pos g, if_pos g]
        rfl
      · rw [if_neg g, if_neg g]
        rfl
    · rw [if_neg h, if_neg h]
      by_cases g : lV l b0 i = true
      · rw [if_pos g, if_pos g]
        rfl
      · rw [if_neg g, if_neg g]
        rfl
  · intro kn
    unfold p_capsule_Gather_l6_F
    dsimp only
    rw [if_neg (by omega)]
    simp
theorem flat_len {l : List (List Int)} (h : l.any pL = false) : l.flatten.length ≤ 1024 * l.length := by
  induction l with
  | nil => simp
  | cons r l ih =>
    simp only [List.any_cons, Bool.or_eq_false_iff, pL, decide_eq_false_iff_not] at h
    have := ih h.2
    simp only [List.flatten_cons, List.length_append, List.length_cons]
    omega
theorem q_capsule_Gather : ∀ x r, g_capsule_Gather x = some r → ∃ N, p_capsule_Gather N x = some r := by
  refine Spec_of (ks := p_capsule_Gather_ks) (rs := p_capsule_Gather_rs) fun x hw hq => ?_
  obtain ⟨(l : List (List Int)), u⟩ := x
  have hq : l.length ≤ 1000 := hq
  have hr : rowsOk l := wf_rows.1 hw.1
  refine ⟨l.length + 1, ?_⟩
  unfold p_capsule_Gather gatherS
  dsimp only
  by_cases h0 : l.length = 0
  · rw [if_pos (by omega), gather_loop hq (by omega), if_pos (show l.length = 0 ∨ l.any pE = true from .inl h0)]
    have : l = [] := List.eq_nil_of_length_eq_zero h0
    subst this
    rfl
  · rw [if_neg (by omega), gather_loop hq (by omega)]
    dsimp only
    have e1 : eV l 0 l.length = if l.any pE = true then 4 else 0 := by unfold eV; rw [List.take_length]
    have e2 : lV l (decide ((l.length : Int) > 256)) l.length = (decide ((l.length : Int) > 256) || l.any pL) := by unfold lV; rw [List.take_length]
    rw [e1, e2]
    by_cases h1 : l.any pE = true
    · rw [if_pos h1, if_pos (by omega), if_pos (.inr h1)]
    · rw [if_neg h1, if_neg (by omega), if_neg (show ¬(l.length = 0 ∨ l.any pE = true) from fun h => h.elim h0 h1)]
      by_cases h2 : 256 < l.length ∨ l.any pL = true
      · rw [if_pos h2]
        have : (decide ((l.length : Int) > 256) || l.any pL) = true := by
          rcases h2 with h | h
          · simp; omega
          · rw [h, Bool.or_true]
        rw [this]
      · rw [if_neg h2]
        have hL : l.any pL = false := by
          cases h : l.any pL with
          | true => exact absurd (.inr h) h2
          | false => rfl
        have : (decide ((l.length : Int) > 256) || l.any pL) = false := by
          rw [hL, Bool.or_false, decide_eq_false_iff_not]
          have : ¬ 256 < l.length := fun h => h2 (.inl h)
          omega
        rw [this]
        have hf := flat_len hL
        have : ¬ 256 < l.length := fun h => h2 (.inl h)
        dsimp only
        rw [at_Join ⟨hq, by omega⟩ hr]
        rfl
theorem q_ref23_Gather : ∀ x r, g_ref23_Gather x = some r → ∃ N, p_ref23_Gather N x = some r := by
  refine Spec_of (ks := p_ref23_Gather_ks) (rs := p_ref23_Gather_rs) fun x hw hq => ?_
  obtain ⟨(l : List (List Int)), u⟩ := x
  have hq : l.length ≤ 1000 := hq
  have hr : rowsOk l := wf_rows.1 hw.1
  refine ⟨l.length + 1, ?_⟩
  have key4 : ∀ {β : Type} (K : (Int × Unit) ⊕ (List (List Int) × Unit) → Option β), iter (p_ref23_Gather_l4_F (l.length + 1)) (l.length + 1) (l, l, (l.length : Int), (0 : Int), ()) K = if l.any pE = true then K (.inl (4, ())) else K (.inr (l, ())) := by
    intro β K
    have run : ∀ j i, i + j = l.length → (l.take i).any pE = false → ∀ q, j < q → iter (p_ref23_Gather_l4_F (l.length + 1)) q (l, l, (l.length : Int), (i : Int), ()) K = if l.any pE = true then K (.inl (4, ())) else K (.inr (l, ())) := by
      intro j
      induction j with
      | zero =>
        intro i hi h q hq2
        obtain ⟨q, rfl⟩ : ∃ m, q = m + 1 := ⟨q - 1, by omega⟩
        rw [List.take_of_length_le (by omega)] at h
        simp only [iter]
        unfold p_ref23_Gather_l4_F
        dsimp only
        rw [if_neg (by omega), h, if_neg (by simp)]
      | succ j ih =>
        intro i hi h q hq2
        obtain ⟨q, rfl⟩ : ∃ m, q = m + 1 := ⟨q - 1, by omega⟩
        have ha := any_one pE (show i < l.length by omega)
        simp only [iter]
        unfold p_ref23_Gather_l4_F
        dsimp only
        rw [if_pos (by omega), if_pos (by omega), if_pos (by omega), Int.toNat_natCast, wrap_i64 (by omega) (by omega)]
        by_cases g : ((l.getD i []).length : Int) = 0
        · rw [if_pos g, if_pos ?_]
          have hm : l.getD i [] ∈ l := by
            rw [List.getD_eq_getElem?_getD, List.getElem?_eq_getElem (show i < l.length by omega)]
            exact List.getElem_mem _
          exact List.any_eq_true.2 ⟨_, hm, by simp only [pE, decide_eq_true_eq]; omega⟩
        · rw [if_neg g]
          refine ih (i + 1) (by omega) ?_ q (by omega)
          rw [ha, h, Bool.false_or]
          simp only [pE, decide_eq_false_iff_not]
          omega
    exact run l.length 0 (by omega) (by simp) _ (by omega)
  have key12 : ∀ {β : Type} (K : (Int × Unit) ⊕ (List (List Int) × Unit) → Option β), iter (p_ref23_Gather_l12_F (l.length + 1)) (l.length + 1) (l, l, (l.length : Int), (0 : Int), ()) K = if l.any pL = true then K (.inl (3, ())) else K (.inr (l, ())) := by
    intro β K
    have run : ∀ j i, i + j = l.length → (l.take i).any pL = false → ∀ q, j < q → iter (p_ref23_Gather_l12_F (l.length + 1)) q (l, l, (l.length : Int), (i : Int), ()) K = if l.any pL = true then K (.inl (3, ())) else K (.inr (l, ())) := by
      intro j
      induction j with
      | zero =>
        intro i hi h q hq2
        obtain ⟨q, rfl⟩ : ∃ m, q = m + 1 := ⟨q - 1, by omega⟩
        rw [List.take_of_length_le (by omega)] at h
        simp only [iter]
        unfold p_ref23_Gather_l12_F
        dsimp only
        rw [if_neg (by omega), h, if_neg (by simp)]
      | succ j ih =>
        intro i hi h q hq2
        obtain ⟨q, rfl⟩ : ∃ m, q = m + 1 := ⟨q - 1, by omega⟩
        have ha := any_one pL (show i < l.length by omega)
        simp only [iter]
        unfold p_ref23_Gather_l12_F
        dsimp only
        rw [if_pos (by omega), if_pos (by omega), if_pos (by omega), Int.toNat_natCast, wrap_i64 (by omega) (by omega)]
        by_cases g : ((l.getD i []).length : Int) > 1024
        · rw [if_pos g, if_pos ?_]
          have hm : l.getD i [] ∈ l := by
            rw [List.getD_eq_getElem?_getD, List.getElem?_eq_getElem (show i < l.length by omega)]
            exact List.getElem_mem _
          exact List.any_eq_true.2 ⟨_, hm, by simp only [pL, decide_eq_true_eq]; omega⟩
        · rw [if_neg g]
          refine ih (i + 1) (by omega) ?_ q (by omega)
          rw [ha, h, Bool.false_or]
          simp only [pL, decide_eq_false_iff_not]
          omega
    exact run l.length 0 (by omega) (by simp) _ (by omega)
  unfold p_ref23_Gather gatherS
  dsimp only
  by_cases h0 : l.length = 0
  · rw [if_pos (by omega), if_pos (show l.length = 0 ∨ l.any pE = true from .inl h0)]
  rw [if_neg (by omega), key4]
  by_cases h1 : l.any pE = true
  · rw [if_pos h1, if_pos (.inr h1)]
  rw [if_neg h1, if_neg (show ¬(l.length = 0 ∨ l.any pE = true) from fun h => h.elim h0 h1)]
  dsimp only
  by_cases h2 : 256 < l.length
  · rw [if_pos (by omega), if_pos (.inl h2)]
  rw [if_neg (by omega), key12]
  by_cases h3 : l.any pL = true
  · rw [if_pos h3, if_pos (.inr h3)]
  have hL : l.any pL = false := by
    cases h : l.any pL with
    | true => exact absurd h h3
    | false => rfl
  have hf := flat_len hL
  rw [if_neg h3, if_neg (show ¬(256 < l.length ∨ l.any pL = true) from fun h => h.elim h2 h3)]
  dsimp only
  rw [at_Join' ⟨hq, by omega⟩ hr]
  rfl
end Go.Ax.TryP
/-! ### What is said of a capsule; the chapter's examples -/
set_option linter.unusedVariables false
namespace Go.Ax.TryP
theorem okInt_u64' {n : Int} : okInt .u64 n ↔ 0 ≤ n ∧ n ≤ 18446744073709551615 := by simp [okInt, Lit.wf, IntKind.min, IntKind.max, IntKind.signed, IntKind.bits]
theorem okInt_u32' {n : Int} : okInt .u32 n ↔ 0 ≤ n ∧ n ≤ 4294967295 := by simp [okInt, Lit.wf, IntKind.min, IntKind.max, IntKind.signed, IntKind.bits]
theorem okInt_u16' {n : Int} : okInt .u16 n ↔ 0 ≤ n ∧ n ≤ 65535 := by simp [okInt, Lit.wf, IntKind.min, IntKind.max, IntKind.signed, IntKind.bits]
def bigP (n : Int) (w i : Nat) : List Int := (List.range w).map fun j => if w - i ≤ j then n / 2 ^ (8 * (w - 1 - j)) % 256 else 0
theorem bigP_all (n : Int) (w : Nat) : bigP n w w = bigS n w := List.map_congr_left fun j _ => by rw [if_pos (by omega)]
theorem bigP_zero (n : Int) (w : Nat) : bigP n w 0 = List.replicate w 0 := by
  refine rows.ext (n := w) (by simp [bigP]) (by simp) fun j hj => ?_
  rw [getD_replicate]
  unfold bigP
  rw [map_range_getD hj, if_neg (by omega)]
theorem bigP_step (n : Int) {w i : Nat} (hi : i < w) : (bigP n w i).set (w - 1 - i) (n / 2 ^ (8 * i) % 256) = bigP n w (i + 1) := by
  have hl : (bigP n w i).length = w := by simp [bigP]
  refine rows.ext (n := w) (by simp [bigP]) (by simp [bigP]) fun j hj => ?_
  by_cases e : w - 1 - i = j
  · subst e
    rw [getD_set_eq (by omega)]
    unfold bigP
    rw [map_range_getD hj, if_pos (by omega), show w - 1 - (w - 1 - i) = i by omega]
  · rw [getD_set_ne e]
    unfold bigP
    rw [map_range_getD hj, map_range_getD hj]
    by_cases h : w - i ≤ j
    · rw [if_pos h, if_pos (by omega)]
    · rw [if_neg h, if_neg (by omega)]
theorem q_octet_big : ∀ x r, g_octet_big x = some r → ∃ N, p_octet_big N x = some r := by
  refine Spec_of (ks := p_octet_big_ks) (rs := p_octet_big_rs) fun x hw hq => ⟨10, ?_⟩
  obtain ⟨(n : Int), (w : Int), u⟩ := x
  have hn : 0 ≤ n ∧ n ≤ 18446744073709551615 := okInt_u64'.1 hw.1
  obtain ⟨h0, h1⟩ : 0 ≤ w ∧ w ≤ 8 := hq
  obtain ⟨w, rfl⟩ : ∃ m : Nat, w = m := ⟨w.toNat, by omega⟩
  obtain ⟨n, rfl⟩ : ∃ m : Nat, n = m := ⟨n.toNat, by omega⟩
  unfold p_octet_big
  dsimp only
  rw [if_pos h0, if_pos rfl, if_pos (by omega), Int.toNat_natCast]
  refine (iter_from (F := p_octet_big_l3_F 10) (s := fun i => ((n : Int), (w : Int), w, (w : Int), (i : Int), w, bigP n w i, ())) (y := (w, w, bigS n w, ())) w ?_ ?_ ?_ 10 (by omega)).trans ?_
  · rw [bigP_zero]; rfl
  · intro i hi kn
    have e1 : IntKind.i64.wrap (8 * (i : Int)) = ((8 * i : Nat) : Int) := by rw [wrap_i64 (by omega) (by omega)]; omega
    have e2 : IntKind.i64.wrap (IntKind.i64.wrap ((w : Int) - 1) - i) = ((w - 1 - i : Nat) : Int) := by rw [wrap_i64 (x := (w : Int) - 1) (by omega) (by omega), wrap_i64 (by omega) (by omega)]; omega
    have e3 : IntKind.u8.wrap (ishr IntKind.u64 (n : Int) ((8 * i : Nat) : Int)) = (n : Int) / 2 ^ (8 * i) % 256 := by
      rw [ishr_nat (k := .u64) (show 8 * i ≤ 64 by omega), wrap_u8_mod]
      simp
    unfold p_octet_big_l3_F
    dsimp only
    rw [if_pos (by omega), e1, e2, if_neg (by omega), if_pos (by omega), if_pos (by omega), Int.toNat_natCast, if_pos (by omega), e3, bigP_step _ hi, wrap_i64 (by omega) (by omega)]
    rfl
  · intro kn
    unfold p_octet_big_l3_F
    dsimp only
    rw [if_neg (by omega), bigP_all]
  · rfl
theorem at_big {n : Int} (hn : 0 ≤ n ∧ n ≤ 18446744073709551615) {w : Nat} (hw : w ≤ 8) : g_octet_big (n, (w : Int), ()) = some (bigS n w) := by
  have := Spec_at (ks := p_octet_big_ks) (rs := p_octet_big_rs) (x := (n, (w : Int), ())) (Q := fun x => 0 ≤ x.2.1 ∧ x.2.1 ≤ 8) (f := fun x => bigS x.1 x.2.1.toNat) ⟨okInt_u64'.2 hn, (okInt_i64 (n := (w : Int))).2 (by omega), trivial⟩ ⟨by show (0 : Int) ≤ w; omega, by show (w : Int) ≤ 8; omega⟩
  exact this
theorem wrap_u64' {x : Int} (h0 : 0 ≤ x) (h1 : x ≤ 18446744073709551615) : IntKind.u64.wrap x = x := by simp [IntKind.wrap, IntKind.signed, IntKind.bits]; omega
theorem q_octet_U16 : ∀ x r, g_octet_U16 x = some r → ∃ N, p_octet_U16 N x = some r := by
  refine Spec_of (ks := p_octet_U16_ks) (rs := p_octet_U16_rs) fun x hw hq => ⟨0, ?_⟩
  obtain ⟨(n : Int), u⟩ := x
  have hn : 0 ≤ n ∧ n ≤ 65535 := okInt_u16'.1 hw.1
  unfold p_octet_U16
  dsimp only
  rw [wrap_u64' (by omega) (by omega)]
  exact congrArg (fun o => Option.bind o _) (at_big (n := n) (by omega) (w := 2) (by omega))
theorem q_octet_U32 : ∀ x r, g_octet_U32 x = some r → ∃ N, p_octet_U32 N x = some r := by
  refine Spec_of (ks := p_octet_U32_ks) (rs := p_octet_U32_rs) fun x hw hq => ⟨0, ?_⟩
  obtain ⟨(n : Int), u⟩ := x
  have hn : 0 ≤ n ∧ n ≤ 4294967295 := okInt_u32'.1 hw.1
  unfold p_octet_U32
  dsimp only
  rw [wrap_u64' (by omega) (by omega)]
  exact congrArg (fun o => Option.bind o _) (at_big (n := n) (by omega) (w := 4) (by omega))
theorem q_octet_U64 : ∀ x r, g_octet_U64 x = some r → ∃ N, p_octet_U64 N x = some r := by
  refine Spec_of (ks := p_octet_U64_ks) (rs := p_octet_U64_rs) fun x hw hq => ⟨0, ?_⟩
  obtain ⟨(n : Int), u⟩ := x
  have hn : 0 ≤ n ∧ n ≤ 18446744073709551615 := okInt_u64'.1 hw.1
  unfold p_octet_U64
  exact congrArg (fun o => Option.bind o _) (at_big (n := n) hn (w := 8) (by omega))
theorem at_U16 {n : Int} (h : 0 ≤ n ∧ n ≤ 65535) : g_octet_U16 (n, ()) = some (bigS n 2) := Spec_at (ks := p_octet_U16_ks) (rs := p_octet_U16_rs) (x := (n, ())) ⟨okInt_u16'.2 h, trivial⟩ trivial
theorem at_U32 {n : Int} (h : 0 ≤ n ∧ n ≤ 4294967295) : g_octet_U32 (n, ()) = some (bigS n 4) := Spec_at (ks := p_octet_U32_ks) (rs := p_octet_U32_rs) (x := (n, ())) ⟨okInt_u32'.2 h, trivial⟩ trivial
theorem at_U64 {n : Int} (h : 0 ≤ n ∧ n ≤ 18446744073709551615) : g_octet_U64 (n, ()) = some (bigS n 8) := Spec_at (ks := p_octet_U64_ks) (rs := p_octet_U64_rs) (x := (n, ())) ⟨okInt_u64'.2 h, trivial⟩ trivial
theorem q_span_one : ∀ x r, g_span_one x = some r → ∃ N, p_span_one N x = some r := by
  refine Spec_of (ks := p_span_one_ks) (rs := p_span_one_rs) fun x hw hq => ⟨0, ?_⟩
  unfold p_span_one oneS
  by_cases h : x.1.1 < x.1.2.1
  · rw [if_pos h]
    exact congrArg some (decide_eq_decide.2 ⟨fun g => ⟨h, g⟩, fun g => g.2⟩)
  · rw [if_neg h]
    exact congrArg some (by simp [h])
theorem at_one {lo hi : Int} (h1 : 0 ≤ lo ∧ lo ≤ 18446744073709551615) (h2 : 0 ≤ hi ∧ hi ≤ 18446744073709551615) : g_span_one ((lo, hi, ()), ()) = some (oneS lo hi) :=
  Spec_at (ks := p_span_one_ks) (rs := p_span_one_rs) (x := ((lo, hi, ()), ())) ⟨⟨okInt_u64'.2 h1, okInt_u64'.2 h2, trivial⟩, trivial⟩ trivial
theorem q_span_May : ∀ x r, g_span_May x = some r → ∃ N, p_span_May N x = some r := by
  refine Spec_of (ks := p_span_May_ks) (rs := p_span_May_rs) fun x hw hq => ⟨3, ?_⟩
  obtain ⟨(l : List Int), u⟩ := x
  have hl : l.length = 2 := hq
  obtain ⟨a, b, rfl⟩ : ∃ a b, l = [a, b] := by
    match l, hl with
    | [a, b], _ => exact ⟨a, b, rfl⟩
  have hb : ∀ z ∈ [a, b], okInt .u64 z := hw.1.2
  have ha1 := okInt_u64'.1 (hb a (by simp))
  have hb1 := okInt_u64'.1 (hb b (by simp))
  unfold p_span_May
  dsimp only
  rw [show ([a, b] : List Int).length / 2 = 1 by simp, show ([a, b] : List Int).length = 2 from rfl]
  show iter (p_span_May_l2_F 3) 3 (1, 1, (1 : Int), (0 : Int), 2, [a, b], ()) _ = some (oneS a b)
  simp only [iter]
  unfold p_span_May_l2_F
  dsimp only
  rw [if_pos (by omega), if_pos (by omega), if_pos (by omega), if_pos (by omega)]
  refine (congrArg (fun o => Option.bind o _) (at_one ha1 hb1)).trans ?_
  rw [Option.bind_some]
  by_cases h : oneS a b = true
  · rw [if_neg (by simp [h]), if_neg (by omega), wrap_i64 (by omega) (by omega), if_neg (by omega), h]
    rfl
  · rw [if_pos h]
    have : oneS a b = false := by simpa using h
    rw [this]
theorem at_May {a b : Int} (h1 : 0 ≤ a ∧ a ≤ 18446744073709551615) (h2 : 0 ≤ b ∧ b ≤ 18446744073709551615) : g_span_May ([a, b], ()) = some (oneS a b) := by
  have hM : 1 ≤ maxLen := by decide
  have w : Kd.wf (.sla (.int .u64) 2) [a, b] := ⟨⟨1, rfl, hM⟩, fun z hz => by
    rcases List.mem_cons.1 hz with rfl | hz
    · exact okInt_u64'.2 h1
    · rw [List.mem_singleton.1 hz]; exact okInt_u64'.2 h2⟩
  exact Spec_at (ks := p_span_May_ks) (rs := p_span_May_rs) (x := ([a, b], ())) ⟨w, trivial⟩ rfl
theorem q_capsule_spoken_1 : ∀ x r, g_capsule_spoken_1 x = some r → ∃ N, p_capsule_spoken_1 N x = some r := by
  refine Spec_of (ks := p_capsule_spoken_1_ks) (rs := p_capsule_spoken_1_rs) fun x hw hq => ⟨0, ?_⟩
  obtain ⟨(n : Int), u⟩ := x
  unfold p_capsule_spoken_1 devS
  dsimp only
  by_cases h : n ≥ 0
  · rw [if_pos h]
    exact congrArg some (decide_eq_decide.2 ⟨fun g => ⟨h, g⟩, fun g => g.2⟩)
  · rw [if_neg h]
    exact congrArg some (decide_eq_false (by omega)).symm
theorem at_dev {n : Int} (h : -9223372036854775808 ≤ n ∧ n ≤ 9223372036854775807) : g_capsule_spoken_1 (n, ()) = some (devS n) :=
  Spec_at (ks := p_capsule_spoken_1_ks) (rs := p_capsule_spoken_1_rs) (x := (n, ())) ⟨okInt_i64.2 h, trivial⟩ trivial
end Go.Ax.TryP
/-! ### What is said; the law -/
set_option linter.unusedVariables false
namespace Go.Ax.TryP
def cpOk (c : Cp) : Prop := (-9223372036854775808 ≤ c.1 ∧ c.1 ≤ 9223372036854775807) ∧ (-9223372036854775808 ≤ c.2.1 ∧ c.2.1 ≤ 9223372036854775807) ∧ (0 ≤ c.2.2.1 ∧ c.2.2.1 ≤ 4294967295) ∧ (0 ≤ c.2.2.2.1 ∧ c.2.2.2.1 ≤ 4294967295) ∧ (0 ≤ c.2.2.2.2.1 ∧ c.2.2.2.2.1 ≤ 18446744073709551615) ∧ (0 ≤ c.2.2.2.2.2.1 ∧ c.2.2.2.2.2.1 ≤ 18446744073709551615)
  ∧ (c.2.2.2.2.2.2.1.length ≤ maxLen ∧ bytes c.2.2.2.2.2.2.1) ∧ (c.2.2.2.2.2.2.2.1.length ≤ maxLen ∧ bytes c.2.2.2.2.2.2.2.1) ∧ (c.2.2.2.2.2.2.2.2.1.length ≤ maxLen ∧ bytes c.2.2.2.2.2.2.2.2.1) ∧ (c.2.2.2.2.2.2.2.2.2.1.length ≤ maxLen ∧ bytes c.2.2.2.2.2.2.2.2.2.1)
abbrev cpK : Kd := .cat [.int .i64, .int .i64, .int .u32, .int .u32, .int .u64, .int .u64, .sl (.int .u8), .sl (.int .u8), .sl (.int .u8), .sl (.int .u8)]
theorem wf_cp {c : Cp} : Kd.wf cpK c ↔ cpOk c := by
  have h1 : ∀ n, okInt .i64 n ↔ -9223372036854775808 ≤ n ∧ n ≤ 9223372036854775807 := fun _ => okInt_i64
  have h2 : ∀ n, okInt .u32 n ↔ 0 ≤ n ∧ n ≤ 4294967295 := fun _ => okInt_u32'
  have h3 : ∀ n, okInt .u64 n ↔ 0 ≤ n ∧ n ≤ 18446744073709551615 := fun _ => okInt_u64'
  have h4 : ∀ n, okInt .u8 n ↔ 0 ≤ n ∧ n ≤ 255 := fun _ => okInt_u8
  simp only [Kd.wf, csWf, FK.wf, cpOk, bytes, h1, h2, h3, h4, and_true]
theorem q_capsule_spoken : ∀ x r, g_capsule_spoken x = some r → ∃ N, p_capsule_spoken N x = some r := by
  refine Spec_of (ks := p_capsule_spoken_ks) (rs := p_capsule_spoken_rs) fun x hw hq => ⟨0, ?_⟩
  obtain ⟨c, u⟩ := x
  obtain ⟨h1, h2, _, _, h5, h6, _⟩ := wf_cp.1 hw.1
  unfold p_capsule_spoken
  dsimp only
  rw [at_dev h1, Option.bind_some]
  show _ = some (spokenS c)
  unfold spokenS
  cases devS c.1 with
  | false => rfl
  | true =>
    rw [if_pos rfl, at_dev h2, Option.bind_some]
    cases devS c.2.1 with
    | false => rfl
    | true =>
      rw [if_pos rfl]
      by_cases hne : c.1 ≠ c.2.1
      · rw [if_pos hne, at_May h5 h6, Option.bind_some]
        have : decide (c.1 ≠ c.2.1) = true := decide_eq_true hne
        rw [this]
        cases oneS c.2.2.2.2.1 c.2.2.2.2.2.1 with
        | false => rfl
        | true =>
          rw [if_pos rfl]
          by_cases h : ((c.2.2.2.2.2.2.1.length : Nat) : Int) ≥ 1
          · rw [if_pos h]
            simp only [Bool.true_and]
            exact congrArg some (decide_eq_decide.2 (by omega))
          · rw [if_neg h]
            simp only [Bool.true_and]
            exact congrArg some (decide_eq_false (by omega)).symm
      · rw [if_neg hne]
        have : decide (c.1 ≠ c.2.1) = false := decide_eq_false hne
        rw [this]
        rfl
theorem at_spoken {c : Cp} (h : cpOk c) : g_capsule_spoken (c, ()) = some (spokenS c) :=
  Spec_at (ks := p_capsule_spoken_ks) (rs := p_capsule_spoken_rs) (x := (c, ())) ⟨wf_cp.2 h, trivial⟩ trivial
theorem bigS_len (n : Int) (w : Nat) : (bigS n w).length = w := by simp [bigS]
theorem bigS_bytes (n : Int) (w : Nat) : bytes (bigS n w) := fun z hz => by
  obtain ⟨i, _, rfl⟩ := List.mem_map.1 hz
  omega
theorem two_bytes (a b : Int) : bytes [a % 256, b % 256] := fun z hz => by
  rcases List.mem_cons.1 hz with rfl | hz
  · omega
  · rw [List.mem_singleton.1 hz]; omega
theorem q_capsule_said : ∀ x r, g_capsule_said x = some r → ∃ N, p_capsule_said N x = some r := by
  refine Spec_of (ks := p_capsule_said_ks) (rs := p_capsule_said_rs) fun x hw hq => ⟨0, ?_⟩
  obtain ⟨c, u⟩ := x
  obtain ⟨h1, h2, h3, h4, h5, h6, h7, _⟩ := wf_cp.1 hw.1
  have hq : c.2.2.2.2.2.2.1.length ≤ 60000 := hq
  have hM : 1000000 ≤ maxLen := by decide
  have w16 : IntKind.u16.wrap ((c.2.2.2.2.2.2.1.length : Nat) : Int) = (c.2.2.2.2.2.2.1.length : Int) := by rw [wrap_u16_mod]; omega
  have e2 : List.set (List.set (List.replicate 2 (0 : Int)) 0 (IntKind.u8.wrap c.1)) 1 (IntKind.u8.wrap c.2.1) = [c.1 % 256, c.2.1 % 256] := by rw [wrap_u8_mod, wrap_u8_mod]; rfl
  unfold p_capsule_said
  dsimp only
  rw [at_U32 h3, Option.bind_some, at_U32 h4, Option.bind_some, at_U64 h5, Option.bind_some, at_U64 h6, Option.bind_some, w16, at_U16 (by omega), Option.bind_some, e2]
  have hf : [[c.1 % 256, c.2.1 % 256], bigS c.2.2.1 4, bigS c.2.2.2.1 4, bigS c.2.2.2.2.1 8, bigS c.2.2.2.2.2.1 8, bigS (c.2.2.2.2.2.2.1.length : Int) 2, c.2.2.2.2.2.2.1].flatten = saidS c := by
    unfold saidS
    simp only [List.flatten_cons, List.flatten_nil, List.append_nil, List.append_assoc]
  rw [at_Join ⟨by simp, ?_⟩ ⟨?_, ?_⟩, Option.bind_some, hf]
  · simp only [List.flatten_cons, List.flatten_nil, List.length_append, bigS_len, List.length_cons, List.length_nil]
    omega
  · simp only [List.length_cons, List.length_nil]
    omega
  · intro zs hz
    simp only [List.mem_cons, List.not_mem_nil, or_false] at hz
    rcases hz with rfl | rfl | rfl | rfl | rfl | rfl | rfl
    · exact ⟨by simp only [List.length_cons, List.length_nil]; omega, two_bytes _ _⟩
    · exact ⟨by rw [bigS_len]; omega, bigS_bytes _ _⟩
    · exact ⟨by rw [bigS_len]; omega, bigS_bytes _ _⟩
    · exact ⟨by rw [bigS_len]; omega, bigS_bytes _ _⟩
    · exact ⟨by rw [bigS_len]; omega, bigS_bytes _ _⟩
    · exact ⟨by rw [bigS_len]; omega, bigS_bytes _ _⟩
    · exact ⟨by omega, h7.2⟩
theorem at_said {c : Cp} (h : cpOk c) (hl : c.2.2.2.2.2.2.1.length ≤ 60000) : g_capsule_said (c, ()) = some (saidS c) :=
  Spec_at (ks := p_capsule_said_ks) (rs := p_capsule_said_rs) (x := (c, ())) ⟨wf_cp.2 h, trivial⟩ hl
theorem q_capsule_Said : ∀ x r, g_capsule_Said x = some r → ∃ N, p_capsule_Said N x = some r := by
  refine Spec_of (ks := p_capsule_Said_ks) (rs := p_capsule_Said_rs) fun x hw hq => ⟨0, ?_⟩
  obtain ⟨c, u⟩ := x
  have hc : cpOk c := wf_cp.1 hw.1
  unfold p_capsule_Said
  refine (congrArg (fun o => Option.bind o _) (at_spoken hc)).trans ?_
  rw [Option.bind_some]
  by_cases h : spokenS c = true
  · rw [if_neg (by simp [h]), if_pos h]
    have hl : c.2.2.2.2.2.2.1.length ≤ 60000 := by
      unfold spokenS at h
      simp only [Bool.and_eq_true, decide_eq_true_eq] at h
      omega
    exact congrArg (fun o => Option.bind o _) (at_said hc hl)
  · rw [if_pos h, if_neg h]
theorem at_Said {c : Cp} (h : cpOk c) : g_capsule_Said (c, ()) = some (if spokenS c = true then saidS c else []) :=
  Spec_at (ks := p_capsule_Said_ks) (rs := p_capsule_Said_rs) (x := (c, ())) ⟨wf_cp.2 h, trivial⟩ trivial
theorem at_Chunks {b : List Int} (h : b.length ≤ 1000000 ∧ bytes b) {size : Int} (hs : -9223372036854775808 ≤ size ∧ size ≤ 9223372036854775807) : g_capsule_Chunks (b, size, ()) = some (chunkS b size) := by
  have hM : 1000000 ≤ maxLen := by decide
  exact Spec_at (ks := p_capsule_Chunks_ks) (rs := p_capsule_Chunks_rs) (x := (b, size, ())) ⟨(wf_b1 (b := b)).2 ⟨by omega, h.2⟩, okInt_i64.2 hs, trivial⟩ h.1
theorem at_Chunks' {b : List Int} (h : b.length ≤ 1000000 ∧ bytes b) {size : Int} (hs : -9223372036854775808 ≤ size ∧ size ≤ 9223372036854775807) : g_ref23_Chunks (b, size, ()) = some (chunkS b size) := by
  have hM : 1000000 ≤ maxLen := by decide
  exact Spec_at (ks := p_ref23_Chunks_ks) (rs := p_ref23_Chunks_rs) (x := (b, size, ())) ⟨(wf_b1 (b := b)).2 ⟨by omega, h.2⟩, okInt_i64.2 hs, trivial⟩ h.1
def cp0 : Cp := (1, 2, 3, 4, 5, 6, [7], [], [], [], ())
theorem cp0_ok : cpOk cp0 := by
  have hM : 1000000 ≤ maxLen := by decide
  refine ⟨by decide, by decide, by decide, by decide, by decide, by decide, ⟨?_, ?_⟩, ⟨Nat.zero_le _, ?_⟩, ⟨Nat.zero_le _, ?_⟩, Nat.zero_le _, ?_⟩
  · show 1 ≤ maxLen; omega
  · intro z hz
    have hz : z ∈ [7] := hz
    rw [List.mem_singleton.1 hz]; omega
  · intro z hz; cases hz
  · intro z hz; cases hz
  · intro z hz; cases hz
theorem cp0_said : (if spokenS cp0 = true then saidS cp0 else []) = [1, 2, 0, 0, 0, 3, 0, 0, 0, 4, 0, 0, 0, 0, 0, 0, 0, 5, 0, 0, 0, 0, 0, 0, 0, 6, 0, 1, 7] := by decide +kernel
theorem chunk0 : chunkS [1, 2, 3, 4, 5] 2 = ([[1, 2], [3, 4], [5]], 0) := by decide +kernel
theorem q_law23_live : ∀ x r, g_law23_live x = some r → ∃ N, p_law23_live N x = some r := by
  refine Spec_of (ks := p_law23_live_ks) (rs := p_law23_live_rs) fun x hw hq => ⟨0, ?_⟩
  have hb5 : bytes [1, 2, 3, 4, 5] := fun z hz => by
    simp only [List.mem_cons, List.not_mem_nil, or_false] at hz
    omega
  have c1 := at_Chunks (b := [1, 2, 3, 4, 5]) ⟨by simp, hb5⟩ (size := 2) (by omega)
  rw [chunk0] at c1
  have c2 := at_Said cp0_ok
  rw [cp0_said] at c2
  have c3 : g_ref01_Equal ([5], [5], ()) = some true := by
    have hb : bytes [5] := fun z hz => by rw [List.mem_singleton.1 hz]; omega
    have := at_Equal (a := [5]) (b := [5]) ⟨by simp, hb⟩ ⟨by simp, hb⟩
    rw [this]
    rfl
  unfold p_law23_live
  refine (congrArg (fun o => Option.bind o _) c1).trans ?_
  rw [Option.bind_some]
  refine (congrArg (fun o => Option.bind o _) c2).trans ?_
  rw [Option.bind_some, if_pos (by decide), if_pos (by decide), if_pos (by decide), if_pos (by decide)]
  refine (congrArg (fun o => Option.bind o _) c3).trans ?_
  rw [Option.bind_some, if_pos rfl, if_pos (by decide), if_pos (by decide), if_pos (by decide), if_pos (by decide), if_pos (by decide), if_pos (by decide), if_pos (by decide), if_pos (by decide), if_pos (by decide), if_pos (by decide), if_pos (by decide), if_pos (by decide)]
  rfl
theorem at_live : g_law23_live () = some true := Spec_at (ks := []) (rs := [.bool]) (x := ()) trivial trivial
end Go.Ax.TryP
/-! ### The law that pieces gather to the text -/
set_option linter.unusedVariables false
namespace Go.Ax.TryP
theorem cut_mem {b : List Int} {s : Nat} : ∀ {n : Nat} {z : List Int}, z ∈ cutN b s n → ∃ i, i < n ∧ z = (b.drop (i * s)).take s
  | 0, z, h => by cases h
  | n + 1, z, h => by
    rcases List.mem_append.1 h with h | h
    · obtain ⟨i, h1, h2⟩ := cut_mem h
      exact ⟨i, by omega, h2⟩
    · exact ⟨n, by omega, List.mem_singleton.1 h⟩
theorem cut_rows {b : List Int} (hb : b.length ≤ 1000000 ∧ bytes b) (s n : Nat) : ∀ z ∈ cutN b s n, z.length ≤ 1000000 ∧ bytes z := fun z hz => by
  obtain ⟨i, _, rfl⟩ := cut_mem hz
  exact ⟨by rw [List.length_take, List.length_drop]; omega, sub_bytes hb.2 _ _⟩
theorem pieces_le {n s : Nat} (hs : 1 ≤ s) (h : n ≤ 256 * s) : pieces n s ≤ 256 := by
  rcases Nat.lt_or_ge 256 (pieces n s) with g | g
  · have := (pieces_spec (n := n) hs).1 g
    omega
  · exact g
theorem chunk_ok {b : List Int} (hb : b.length ≤ 1000000 ∧ bytes b) (size : Int) : (chunkS b size).1.length ≤ 256 ∧ ∀ z ∈ (chunkS b size).1, z.length ≤ 1000000 ∧ bytes z := by
  unfold chunkS
  by_cases h1 : size < 1 ∨ 1024 < size
  · rw [if_pos h1]
    exact ⟨Nat.zero_le _, fun z hz => by cases hz⟩
  rw [if_neg h1]
  by_cases h2 : b.length = 0
  · rw [if_pos h2]
    exact ⟨Nat.zero_le _, fun z hz => by cases hz⟩
  rw [if_neg h2]
  by_cases h3 : 256 * size < (b.length : Int)
  · rw [if_pos h3]
    exact ⟨Nat.zero_le _, fun z hz => by cases hz⟩
  rw [if_neg h3]
  refine ⟨?_, cut_rows hb _ _⟩
  show (cutN _ _ _).length ≤ 256
  rw [cut_len]
  exact pieces_le (by omega) (by omega)
theorem gather_chunk {b : List Int} {size : Int} (h : (chunkS b size).2 = 0) : gatherS (chunkS b size).1 = (b, 0) := by
  unfold chunkS at h ⊢
  by_cases h1 : size < 1 ∨ 1024 < size
  · rw [if_pos h1] at h; exact absurd h (by decide)
  rw [if_neg h1] at h ⊢
  by_cases h2 : b.length = 0
  · rw [if_pos h2] at h; exact absurd h (by decide)
  rw [if_neg h2] at h ⊢
  by_cases h3 : 256 * size < (b.length : Int)
  · rw [if_pos h3] at h; exact absurd h (by decide)
  rw [if_neg h3]
  obtain ⟨s, rfl⟩ : ∃ s : Nat, size = s := ⟨size.toNat, by omega⟩
  rw [Int.toNat_natCast]
  show gatherS (cutN b s (pieces b.length s)) = (b, 0)
  have hs : 1 ≤ s := by omega
  have hle := pieces_le (n := b.length) hs (by omega)
  have h0 : 0 < pieces b.length s := (pieces_spec hs).2 (by omega)
  have hn : ¬ pieces b.length s * s < b.length := fun h => absurd ((pieces_spec hs).2 h) (Nat.lt_irrefl _)
  have hE : ¬((cutN b s (pieces b.length s)).length = 0 ∨ (cutN b s (pieces b.length s)).any (fun r => decide (r.length = 0)) = true) := by
    rintro (h | h)
    · rw [cut_len] at h; omega
    · obtain ⟨r, hr, hp⟩ := List.any_eq_true.1 h
      obtain ⟨i, hi, rfl⟩ := cut_mem hr
      have := (pieces_spec (n := b.length) hs).1 hi
      have hp := of_decide_eq_true hp
      rw [List.length_take, List.length_drop] at hp
      omega
  have hL : ¬(256 < (cutN b s (pieces b.length s)).length ∨ (cutN b s (pieces b.length s)).any (fun r => decide (1024 < r.length)) = true) := by
    rintro (h | h)
    · rw [cut_len] at h; omega
    · obtain ⟨r, hr, hp⟩ := List.any_eq_true.1 h
      obtain ⟨i, hi, rfl⟩ := cut_mem hr
      have hp := of_decide_eq_true hp
      rw [List.length_take, List.length_drop] at hp
      omega
  unfold gatherS
  rw [if_neg hE, if_neg hL, cut_flat, List.take_of_length_le (by omega)]
theorem gather_ok {l : List (List Int)} (hr : rowsOk l) : (gatherS l).1.length ≤ 1000000 ∧ bytes (gatherS l).1 := by
  unfold gatherS
  by_cases h1 : l.length = 0 ∨ l.any (fun r => decide (r.length = 0)) = true
  · rw [if_pos h1]; exact ⟨Nat.zero_le _, fun z hz => by cases hz⟩
  rw [if_neg h1]
  by_cases h2 : 256 < l.length ∨ l.any (fun r => decide (1024 < r.length)) = true
  · rw [if_pos h2]; exact ⟨Nat.zero_le _, fun z hz => by cases hz⟩
  rw [if_neg h2]
  have hL : l.any pL = false := by
    cases h : l.any pL with
    | true => exact absurd (.inr h) h2
    | false => rfl
  have h3 : ¬ 256 < l.length := fun h => h2 (.inl h)
  have := flat_len hL
  exact ⟨by show l.flatten.length ≤ _; omega, flat_bytes hr⟩
theorem at_Gather {l : List (List Int)} (h : l.length ≤ 1000) (hr : rowsOk l) : g_capsule_Gather (l, ()) = some (gatherS l) :=
  Spec_at (ks := p_capsule_Gather_ks) (rs := p_capsule_Gather_rs) (x := (l, ())) ⟨wf_rows.2 hr, trivial⟩ h
theorem at_Gather' {l : List (List Int)} (h : l.length ≤ 1000) (hr : rowsOk l) : g_ref23_Gather (l, ()) = some (gatherS l) :=
  Spec_at (ks := p_ref23_Gather_ks) (rs := p_ref23_Gather_rs) (x := (l, ())) ⟨wf_rows.2 hr, trivial⟩ h
theorem at_Eq {a : List Int} (h : a.length ≤ 1000000 ∧ bytes a) : g_ref01_Equal (a, a, ()) = some true := by
  rw [at_Equal h h, decide_eq_true rfl]
theorem q_law23_CapsuleCuts : ∀ x r, g_law23_CapsuleCuts x = some r → ∃ N, p_law23_CapsuleCuts N x = some r := by
  refine Spec_of (ks := p_law23_CapsuleCuts_ks) (rs := p_law23_CapsuleCuts_rs) fun x hw hq => ⟨1001, ?_⟩
  obtain ⟨(b : List Int), (size : Int), (l : List (List Int)), u⟩ := x
  have hM : 1000000 ≤ maxLen := by decide
  have hb : b.length ≤ maxLen ∧ bytes b := (wf_b1 (b := b)).1 hw.1
  have hsz : -9223372036854775808 ≤ size ∧ size ≤ 9223372036854775807 := okInt_i64.1 hw.2.1
  have hr : rowsOk l := wf_rows.1 hw.2.2.1
  unfold p_law23_CapsuleCuts
  dsimp only
  rw [at_live, Option.bind_some, if_neg (by simp)]
  by_cases h1 : (b.length : Int) > 300000
  · rw [if_pos h1, Option.bind_some]
    rfl
  rw [if_neg h1]
  by_cases h2 : ((l.length : Nat) : Int) > 1000
  · rw [if_pos h2, Option.bind_some]
    rfl
  have hb2 : b.length ≤ 1000000 ∧ bytes b := ⟨by omega, hb.2⟩
  have hck := chunk_ok hb2 size
  have hgc := gather_chunk (b := b) (size := size)
  rw [if_neg h2, at_Chunks hb2 hsz, Option.bind_some, at_Chunks' hb2 hsz, Option.bind_some, if_neg (by simp), if_neg (by simp)]
  generalize chunkS b size = r at hck hgc
  obtain ⟨x, e⟩ := r
  dsimp only at hck hgc ⊢
  refine (iter_run (F := p_law23_CapsuleCuts_l8_F 1001) (s := fun i => (b.length, l, x, e, x, ((x.length : Nat) : Int), (i : Int), b.length, b, ())) (y := .inr (b.length, l, x, e, b.length, b, ())) x.length ?_ ?_ 1001 (by omega)).trans ?_
  · intro i hi kn
    have hrow : (x.getD i []).length ≤ 1000000 ∧ bytes (x.getD i []) := hck.2 _ (by
      rw [List.getD_eq_getElem?_getD, List.getElem?_eq_getElem hi]
      exact List.getElem_mem _)
    unfold p_law23_CapsuleCuts_l8_F
    dsimp only
    rw [if_pos (by omega), if_pos (by omega), if_pos (by omega), if_pos (by omega), if_pos (by omega), Int.toNat_natCast, at_Eq hrow, Option.bind_some, if_neg (by simp), wrap_i64 (by omega) (by omega)]
    rfl
  · intro kn
    unfold p_law23_CapsuleCuts_l8_F
    dsimp only
    rw [if_neg (by omega)]
  dsimp only
  rw [at_Gather (by omega) hr, Option.bind_some, at_Gather' (by omega) hr, Option.bind_some, at_Eq (gather_ok hr), Option.bind_some, if_neg (by simp), if_neg (by simp)]
  by_cases he : e ≠ 0
  · rw [if_pos he]
  · have he : e = 0 := by omega
    have hrx : rowsOk x := ⟨by omega, fun z hz => by have := hck.2 z hz; exact ⟨by omega, this.2⟩⟩
    rw [if_neg (by omega), at_Gather (by omega) hrx, Option.bind_some, hgc he, if_pos rfl, at_Eq hb2, Option.bind_some]
    rfl
end Go.Ax.TryP
/-! Printed by program (wires.py): the functions keep their signatures. -/
namespace Go.Ax.TryP
theorem s_octet_Join : SigOk Go.Proofs.Try.prog 28 ⟨[.sls (.int .u8)], [.sl (.int .u8)], g_octet_Join⟩ := p_octet_Join_ok q_octet_Join
theorem s_ref01_Join : SigOk Go.Proofs.Try.prog 25 ⟨[.sls (.int .u8)], [.sl (.int .u8)], g_ref01_Join⟩ := p_ref01_Join_ok q_ref01_Join
theorem s_ref01_Equal : SigOk Go.Proofs.Try.prog 11 ⟨[.sl (.int .u8), .sl (.int .u8)], [.bool], g_ref01_Equal⟩ := p_ref01_Equal_ok q_ref01_Equal
theorem s_capsule_Chunks : SigOk Go.Proofs.Try.prog 9 ⟨[.sl (.int .u8), .int .i64], [.sls (.int .u8), .int .i64], g_capsule_Chunks⟩ := p_capsule_Chunks_ok s_octet_Join q_capsule_Chunks
theorem s_ref23_Chunks : SigOk Go.Proofs.Try.prog 10 ⟨[.sl (.int .u8), .int .i64], [.sls (.int .u8), .int .i64], g_ref23_Chunks⟩ := p_ref23_Chunks_ok s_ref01_Join q_ref23_Chunks
theorem s_capsule_Gather : SigOk Go.Proofs.Try.prog 12 ⟨[.sls (.int .u8)], [.sl (.int .u8), .int .i64], g_capsule_Gather⟩ := p_capsule_Gather_ok s_octet_Join q_capsule_Gather
theorem s_ref23_Gather : SigOk Go.Proofs.Try.prog 13 ⟨[.sls (.int .u8)], [.sl (.int .u8), .int .i64], g_ref23_Gather⟩ := p_ref23_Gather_ok s_ref01_Join q_ref23_Gather
theorem s_octet_big : SigOk Go.Proofs.Try.prog 49 ⟨[.int .u64, .int .i64], [.sl (.int .u8)], g_octet_big⟩ := p_octet_big_ok q_octet_big
theorem s_octet_U16 : SigOk Go.Proofs.Try.prog 42 ⟨[.int .u16], [.sl (.int .u8)], g_octet_U16⟩ := p_octet_U16_ok s_octet_big q_octet_U16
theorem s_octet_U32 : SigOk Go.Proofs.Try.prog 45 ⟨[.int .u32], [.sl (.int .u8)], g_octet_U32⟩ := p_octet_U32_ok s_octet_big q_octet_U32
theorem s_octet_U64 : SigOk Go.Proofs.Try.prog 46 ⟨[.int .u64], [.sl (.int .u8)], g_octet_U64⟩ := p_octet_U64_ok s_octet_big q_octet_U64
theorem s_span_one : SigOk Go.Proofs.Try.prog 50 ⟨[.cat [.int .u64, .int .u64]], [.bool], g_span_one⟩ := p_span_one_ok q_span_one
theorem s_span_May : SigOk Go.Proofs.Try.prog 44 ⟨[.sla (.int .u64) 2], [.bool], g_span_May⟩ := p_span_May_ok s_span_one q_span_May
theorem s_capsule_spoken_1 : SigOk Go.Proofs.Try.prog 43 ⟨[.int .i64], [.bool], g_capsule_spoken_1⟩ := p_capsule_spoken_1_ok q_capsule_spoken_1
theorem s_capsule_spoken : SigOk Go.Proofs.Try.prog 33 ⟨[.cat [.int .i64, .int .i64, .int .u32, .int .u32, .int .u64, .int .u64, .sl (.int .u8), .sl (.int .u8), .sl (.int .u8), .sl (.int .u8)]], [.bool], g_capsule_spoken⟩ := p_capsule_spoken_ok s_capsule_spoken_1 s_span_May q_capsule_spoken
theorem s_capsule_said : SigOk Go.Proofs.Try.prog 34 ⟨[.cat [.int .i64, .int .i64, .int .u32, .int .u32, .int .u64, .int .u64, .sl (.int .u8), .sl (.int .u8), .sl (.int .u8), .sl (.int .u8)]], [.sl (.int .u8)], g_capsule_said⟩ := p_capsule_said_ok s_octet_U32 s_octet_U64 s_octet_U16 s_octet_Join q_capsule_said
theorem s_capsule_Said : SigOk Go.Proofs.Try.prog 21 ⟨[.cat [.int .i64, .int .i64, .int .u32, .int .u32, .int .u64, .int .u64, .sl (.int .u8), .sl (.int .u8), .sl (.int .u8), .sl (.int .u8)]], [.sl (.int .u8)], g_capsule_Said⟩ := p_capsule_Said_ok s_capsule_spoken s_capsule_said q_capsule_Said
theorem s_law23_live : SigOk Go.Proofs.Try.prog 8 ⟨[], [.bool], g_law23_live⟩ := p_law23_live_ok s_capsule_Chunks s_capsule_Said s_ref01_Equal q_law23_live
theorem s_law23_CapsuleCuts : SigOk Go.Proofs.Try.prog 3 ⟨[.sl (.int .u8), .int .i64, .sls (.int .u8)], [.bool], g_law23_CapsuleCuts⟩ := p_law23_CapsuleCuts_ok s_law23_live s_capsule_Chunks s_ref23_Chunks s_ref01_Equal s_capsule_Gather s_ref23_Gather q_law23_CapsuleCuts
end Go.Ax.TryP
