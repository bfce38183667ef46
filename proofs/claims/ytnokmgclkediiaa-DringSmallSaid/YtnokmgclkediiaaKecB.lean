/- A part of the proof: KecS2, KecP2, KecQ6, KecQ7, KecQ8, KecQ9, KecQ10, KecQ11, KecQ12, KecQ13, KecQ14, KecQ15, KecQ16. -/
import Derived.Test.YtnokmgclkediiaaKecA
/-! The sponge, its outputs, and the samples: what the functions answer. -/
namespace Go.Ax.TryP
/-- A byte, put at a place of a state. -/
def putS (a : List Int) (p : Nat) (x : Int) : List Int := a.set (p / 8) (x64 (at0 a (p / 8)) (ishl .u64 x ((8 * (p % 8) : Nat) : Int)))
def stepT (rate : Nat) (s : List Int × Nat) (x : Int) : List Int × Nat := if s.2 + 1 = rate then (permS (putS s.1 s.2 x), 0) else (putS s.1 s.2 x, s.2 + 1)
def feed (rate : Nat) (s : List Int × Nat) (l : List Int) : List Int × Nat := l.foldl (stepT rate) s
/-- The state behind a text and its end. -/
def absorb (rate : Nat) (e : Int) (s : List Int × Nat) (l : List Int) : List Int :=
  permS (putS (putS (feed rate s l).1 (feed rate s l).2 e) (rate - 1) 128)
def perms : Nat → List Int → List Int
  | 0, a => a
  | n + 1, a => permS (perms n a)
def byteOf (a : List Int) (i : Nat) : Int := IntKind.u8.wrap (ishr .u64 (at0 a (i / 8)) ((8 * (i % 8) : Nat) : Int))
/-- The byte at a place of an output. -/
def outB (rate : Nat) (a : List Int) (p : Nat) : Int := byteOf (perms (p / rate) a) (p % rate)
/-- The state, and the place in it, behind p bytes: a permutation waits for the next byte. -/
def stOf (rate : Nat) (a : List Int) (p : Nat) : List Int × Nat := (perms ((p - 1) / rate) a, p - (p - 1) / rate * rate)
def okRate (r : Int) : Prop := 8 ≤ r ∧ r ≤ 200
abbrev Sp := List Int × Int × Int × Unit
noncomputable def g_keccak_sponge_put : Sp × Int × Unit → Option Sp := Spec (ks := [.io [.xs (.int .u64) 25, .int .i64, .int .i64], .int .u8]) (rs := [.cat [.xs (.int .u64) 25, .int .i64, .int .i64]]) (fun x => 0 ≤ x.1.2.2.1 ∧ x.1.2.2.1 < 200) fun x => (putS x.1.1 x.1.2.2.1.toNat x.2.1, x.1.2.1, x.1.2.2.1, ())
noncomputable def g_keccak_sponge_takes : Sp × Int × List (List Int) × Unit → Option Sp := Spec (ks := [.io [.xs (.int .u64) 25, .int .i64, .int .i64], .int .u8, .sls (.int .u8)]) (rs := [.cat [.xs (.int .u64) 25, .int .i64, .int .i64]])
  (fun x => okRate x.1.2.1 ∧ 0 ≤ x.1.2.2.1 ∧ x.1.2.2.1 < x.1.2.1) fun x => (absorb x.1.2.1.toNat x.2.1 (x.1.1, x.1.2.2.1.toNat) x.2.2.1.flatten, x.1.2.1, 0, ())
noncomputable def g_keccak_sponge_gives : Sp × List Int × Unit → Option (Sp × List Int) := Spec (ks := [.io [.xs (.int .u64) 25, .int .i64, .int .i64], .ios (.int .u8)]) (rs := [.cat [.xs (.int .u64) 25, .int .i64, .int .i64], .xv (.int .u8)])
  (fun x => okRate x.1.2.1 ∧ 0 ≤ x.1.2.2.1 ∧ x.1.2.2.1 ≤ x.1.2.1)
  fun x => (((stOf x.1.2.1.toNat x.1.1 (x.1.2.2.1.toNat + x.2.1.length)).1, x.1.2.1, ((stOf x.1.2.1.toNat x.1.1 (x.1.2.2.1.toNat + x.2.1.length)).2 : Int), ()), (List.range x.2.1.length).map fun k => outB x.1.2.1.toNat x.1.1 (x.1.2.2.1.toNat + k))
abbrev Xf := Bool × List Int × Int × Int × Int × Unit
noncomputable def g_keccak_Xof_none : Xf × Unit → Option (Bool × Xf) := Spec (ks := [.io [.bool, .xs (.int .u64) 25, .int .i64, .int .i64, .int .i64]]) (rs := [.bool, .cat [.bool, .xs (.int .u64) 25, .int .i64, .int .i64, .int .i64]]) (fun _ => True) fun x => (!x.1.1, x.1)
def fMay (n : Int) : Int := if n < 0 then 1 else if 1048576 < n then 3 else 0
noncomputable def g_keccak_may : Int × Unit → Option Int := Spec (ks := [.int .i64]) (rs := [.int .i64]) (fun _ => True) fun x => fMay x.1
noncomputable def g_keccak_Xof_Read : Xf × Int × Unit → Option (List Int × Int × Xf) := Spec (ks := [.io [.bool, .xs (.int .u64) 25, .int .i64, .int .i64, .int .i64], .int .i64]) (rs := [.sl (.int .u8), .int .i64, .cat [.bool, .xs (.int .u64) 25, .int .i64, .int .i64, .int .i64]])
  (fun x => x.1.1 = true ∧ 0 ≤ x.2.1 ∧ x.2.1 ≤ 1048576 ∧ okRate x.1.2.2.1 ∧ 0 ≤ x.1.2.2.2.1 ∧ x.1.2.2.2.1 ≤ x.1.2.2.1)
  fun x => ((List.range x.2.1.toNat).map (fun k => outB x.1.2.2.1.toNat x.1.2.1 (x.1.2.2.2.1.toNat + k)), 0,
    (true, (stOf x.1.2.2.1.toNat x.1.2.1 (x.1.2.2.2.1.toNat + x.2.1.toNat)).1, x.1.2.2.1, ((stOf x.1.2.2.1.toNat x.1.2.1 (x.1.2.2.2.1.toNat + x.2.1.toNat)).2 : Int), IntKind.i64.wrap (x.1.2.2.2.2.1 + x.2.1), ()))
noncomputable def g_keccak_started : Int × List (List Int) × Unit → Option Xf := Spec (ks := [.int .i64, .sls (.int .u8)]) (rs := [.op [.bool, .xs (.int .u64) 25, .int .i64, .int .i64, .int .i64]]) (fun x => okRate x.1) fun x => (true, absorb x.1.toNat 31 (z25, 0) x.2.1.flatten, x.1, 0, 0, ())
noncomputable def g_keccak_Shake128 : List (List Int) × Unit → Option Xf := Spec (ks := [.sls (.int .u8)]) (rs := [.op [.bool, .xs (.int .u64) 25, .int .i64, .int .i64, .int .i64]]) (fun _ => True) fun x => (true, absorb 168 31 (z25, 0) x.1.flatten, 168, 0, 0, ())
/-- The first bytes of an output. -/
def spongeS (rate : Nat) (e : Int) (l : List Int) (n : Nat) : List Int := (List.range n).map (outB rate (absorb rate e (z25, 0) l))
noncomputable def g_ref01_Join : List (List Int) × Unit → Option (List Int) := Spec (ks := [.sls (.int .u8)]) (rs := [.sl (.int .u8)]) (fun x => x.1.flatten.length ≤ 4294967296) fun x => x.1.flatten
noncomputable def g_ref03_bytes : List Int × Int × Unit → Option (List Int) := Spec (ks := [.xs (.int .u64) 25, .int .i64]) (rs := [.sl (.int .u8)]) (fun x => 0 ≤ x.2.1 ∧ x.2.1 ≤ 200) fun x => (List.range x.2.1.toNat).map (byteOf x.1)
noncomputable def g_ref03_Sponge : Int × Int × List Int × Int × Unit → Option (List Int) := Spec (ks := [.int .i64, .int .u8, .sl (.int .u8), .int .i64]) (rs := [.sl (.int .u8)]) (fun x => okRate x.1 ∧ 0 ≤ x.2.2.2.1 ∧ x.2.2.2.1 ≤ 1048576 ∧ x.2.2.1.length ≤ 4294967000) fun x => spongeS x.1.toNat x.2.1 x.2.2.1 x.2.2.2.1.toNat
noncomputable def g_ref03_Shake : Int × Int × List Int × Unit → Option (List Int) := Spec (ks := [.int .i64, .int .i64, .sl (.int .u8)]) (rs := [.sl (.int .u8)]) (fun x => 0 ≤ x.2.1 ∧ x.2.1 ≤ 1048576 ∧ x.2.2.1.length ≤ 4294967000) fun x => spongeS (if x.1 = 128 then 168 else 136) 31 x.2.2.1 x.2.1.toNat
end Go.Ax.TryP
/-! Printed by program (gen.py). -/
set_option linter.unusedVariables false
namespace Go.Ax.TryP
/-! (*livery/keccak.sponge).put -/
noncomputable def p_keccak_sponge_put_E : AE := AE.of [(3, ty3), (5, ty5), (83, ty83), (84, ty84), (86, ty86)] []
noncomputable def p_keccak_sponge_put_H : Hints := [(3000000, [])]
noncomputable def p_keccak_sponge_put_c : Code := (Go.Proofs.Try.f93).body.getD .skip
abbrev p_keccak_sponge_put_ks : List Kd := [.io [.xs (.int .u64) 25, .int .i64, .int .i64], .int .u8]
abbrev p_keccak_sponge_put_rs : List Kd := [.cat [.xs (.int .u64) 25, .int .i64, .int .i64]]
noncomputable def p_keccak_sponge_put (N : Nat) (x : (List Int × Int × Int × Unit) × Int × Unit) : Option ((List Int × Int × Int × Unit)) :=
  if 0 ≤ (IntKind.i64.wrap (Int.tdiv x.1.2.2.1 (8:Int))) then (
  if (IntKind.i64.wrap (Int.tdiv x.1.2.2.1 (8:Int))) < 25 then (
  if ((IntKind.i64.wrap (Int.tdiv x.1.2.2.1 (8:Int))).toNat) < 25 then (
  if (IntKind.i64.wrap ((8:Int) * (Int.tmod x.1.2.2.1 (8:Int)))) < 0 then none else (
  if 0 ≤ (IntKind.i64.wrap (Int.tdiv x.1.2.2.1 (8:Int))) then (
  if (IntKind.i64.wrap (Int.tdiv x.1.2.2.1 (8:Int))) < 25 then (
  if ((IntKind.i64.wrap (Int.tdiv x.1.2.2.1 (8:Int))).toNat) < 25 then (
  some ((List.set x.1.1 ((IntKind.i64.wrap (Int.tdiv x.1.2.2.1 (8:Int))).toNat) (ixor IntKind.u64 (List.getD x.1.1 ((IntKind.i64.wrap (Int.tdiv x.1.2.2.1 (8:Int))).toNat) 0) (ishl IntKind.u64 (IntKind.u64.wrap x.2.1) (IntKind.i64.wrap ((8:Int) * (Int.tmod x.1.2.2.1 (8:Int))))))), x.1.2.1, x.1.2.2.1, ())) else none) else none) else none)) else none) else none) else none
theorem p_keccak_sponge_put_eq (N : Nat) (x : Ds [.io [.xs (.int .u64) 25, .int .i64, .int .i64], .int .u8]) : funL p_keccak_sponge_put_E p_keccak_sponge_put_H (LT.nil) N Go.Proofs.Try.f93 p_keccak_sponge_put_c [.io [.xs (.int .u64) 25, .int .i64, .int .i64], .int .u8] [.cat [.xs (.int .u64) 25, .int .i64, .int .i64]] x = p_keccak_sponge_put N x := by kernel_rfl
theorem p_keccak_sponge_put_Eok : p_keccak_sponge_put_E.Ok Go.Proofs.Try.prog := AE.of_ok (all_cons ty3_ok (all_cons ty5_ok (all_cons ty83_ok (all_cons ty84_ok (all_cons ty86_ok all_nil))))) all_nil
theorem p_keccak_sponge_put_ok {g : Ds [.io [.xs (.int .u64) 25, .int .i64, .int .i64], .int .u8] → Option (Rs [.cat [.xs (.int .u64) 25, .int .i64, .int .i64]])} (hg : ∀ x r, g x = some r → ∃ N, p_keccak_sponge_put N x = some r) : SigOk Go.Proofs.Try.prog 93 ⟨[.io [.xs (.int .u64) 25, .int .i64, .int .i64], .int .u8], [.cat [.xs (.int .u64) 25, .int .i64, .int .i64]], g⟩ :=
  fun_of (E := p_keccak_sponge_put_E) (H := p_keccak_sponge_put_H) (L := fun N => LT.nil) (c := p_keccak_sponge_put_c) (ks := p_keccak_sponge_put_ks) (rs := p_keccak_sponge_put_rs) (F := p_keccak_sponge_put) (p_keccak_sponge_put_Eok) mix Go.Proofs.Try.func93 (by kernel_rfl) (fun N => OkAll.nil) p_keccak_sponge_put_eq hg

/-! livery/keccak.may -/
noncomputable def p_keccak_may_E : AE := AE.of [] []
noncomputable def p_keccak_may_H : Hints := [(2000000, []), (3000000, [2])]
noncomputable def p_keccak_may_c : Code := (Go.Proofs.Try.f79).body.getD .skip
abbrev p_keccak_may_ks : List Kd := [.int .i64]
abbrev p_keccak_may_rs : List Kd := [.int .i64]
noncomputable def p_keccak_may (N : Nat) (x : Int × Unit) : Option (Int) :=
  if (x.1 < (0:Int)) then
    some (1:Int)
  else
    if (x.1 > (1048576:Int)) then
      some (3:Int)
    else
      some (0:Int)
theorem p_keccak_may_eq (N : Nat) (x : Ds [.int .i64]) : funL p_keccak_may_E p_keccak_may_H (LT.nil) N Go.Proofs.Try.f79 p_keccak_may_c [.int .i64] [.int .i64] x = p_keccak_may N x := by kernel_rfl
theorem p_keccak_may_Eok : p_keccak_may_E.Ok Go.Proofs.Try.prog := AE.of_ok all_nil all_nil
theorem p_keccak_may_ok {g : Ds [.int .i64] → Option (Rs [.int .i64])} (hg : ∀ x r, g x = some r → ∃ N, p_keccak_may N x = some r) : SigOk Go.Proofs.Try.prog 79 ⟨[.int .i64], [.int .i64], g⟩ :=
  fun_of (E := p_keccak_may_E) (H := p_keccak_may_H) (L := fun N => LT.nil) (c := p_keccak_may_c) (ks := p_keccak_may_ks) (rs := p_keccak_may_rs) (F := p_keccak_may) (p_keccak_may_Eok) mix Go.Proofs.Try.func79 (by kernel_rfl) (fun N => OkAll.nil) p_keccak_may_eq hg

/-! (*livery/keccak.Xof).none -/
noncomputable def p_keccak_Xof_none_E : AE := AE.of [(4, ty4), (72, ty72), (88, ty88)] []
noncomputable def p_keccak_Xof_none_H : Hints := [(3000000, [2])]
noncomputable def p_keccak_Xof_none_c : Code := (Go.Proofs.Try.f84).body.getD .skip
abbrev p_keccak_Xof_none_ks : List Kd := [.io [.bool, .xs (.int .u64) 25, .int .i64, .int .i64, .int .i64]]
abbrev p_keccak_Xof_none_rs : List Kd := [.bool, .cat [.bool, .xs (.int .u64) 25, .int .i64, .int .i64, .int .i64]]
noncomputable def p_keccak_Xof_none (N : Nat) (x : (Bool × List Int × Int × Int × Int × Unit) × Unit) : Option (Bool × (Bool × List Int × Int × Int × Int × Unit)) :=
  some ((decide (¬ (x.1.1 = true))), ((decide (x.1.1 = true)), x.1.2.1, x.1.2.2.1, x.1.2.2.2.1, x.1.2.2.2.2.1, ()))
theorem p_keccak_Xof_none_eq (N : Nat) (x : Ds [.io [.bool, .xs (.int .u64) 25, .int .i64, .int .i64, .int .i64]]) : funL p_keccak_Xof_none_E p_keccak_Xof_none_H (LT.nil) N Go.Proofs.Try.f84 p_keccak_Xof_none_c [.io [.bool, .xs (.int .u64) 25, .int .i64, .int .i64, .int .i64]] [.bool, .cat [.bool, .xs (.int .u64) 25, .int .i64, .int .i64, .int .i64]] x = p_keccak_Xof_none N x := by kernel_rfl
theorem p_keccak_Xof_none_Eok : p_keccak_Xof_none_E.Ok Go.Proofs.Try.prog := AE.of_ok (all_cons ty4_ok (all_cons ty72_ok (all_cons ty88_ok all_nil))) all_nil
theorem p_keccak_Xof_none_ok {g : Ds [.io [.bool, .xs (.int .u64) 25, .int .i64, .int .i64, .int .i64]] → Option (Rs [.bool, .cat [.bool, .xs (.int .u64) 25, .int .i64, .int .i64, .int .i64]])} (hg : ∀ x r, g x = some r → ∃ N, p_keccak_Xof_none N x = some r) : SigOk Go.Proofs.Try.prog 84 ⟨[.io [.bool, .xs (.int .u64) 25, .int .i64, .int .i64, .int .i64]], [.bool, .cat [.bool, .xs (.int .u64) 25, .int .i64, .int .i64, .int .i64]], g⟩ :=
  fun_of (E := p_keccak_Xof_none_E) (H := p_keccak_Xof_none_H) (L := fun N => LT.nil) (c := p_keccak_Xof_none_c) (ks := p_keccak_Xof_none_ks) (rs := p_keccak_Xof_none_rs) (F := p_keccak_Xof_none) (p_keccak_Xof_none_Eok) mix Go.Proofs.Try.func84 (by kernel_rfl) (fun N => OkAll.nil) p_keccak_Xof_none_eq hg

/-! livery/liveryref03.bytes -/
noncomputable def p_ref03_bytes_E : AE := AE.of [(3, ty3), (5, ty5), (39, ty39), (51, ty51), (83, ty83), (84, ty84)] []
noncomputable def p_ref03_bytes_H : Hints := [(3, [2, 5, 8, 9]), (2000000, [5]), (2000001, [2, 5, 8, 9]), (3000000, [4])]
noncomputable def p_ref03_bytes_c : Code := (Go.Proofs.Try.f92).body.getD .skip
noncomputable def p_ref03_bytes_l3_S : Shape where
  h := { tmps := [.any, .any, .sc (.ptr 0 0 false), .any, .any, .sc (.vec 1 none 1), .any, .any, .sc (.int .i64), .sc (.int .i64), .any, .any, .any, .any, .any, .any, .any, .any, .any, .any, .any, .any, .any, .any, .any, .any, .any], mem := [.live [.xs (.int .u64) (some 25)] (.own), .live [.xs (.int .u8) none] (.own)] }
  ks := [.nat, .int, .int, .xs, .nat, .xs]
  st := fun x => { tmps := [.one .any, .one .any, .one (.sc (.ptr 0 0 none)), .one .any, .one .any, .one (.sc (.vec 1 x.1 1)), .one .any, .one .any, .one (.sc (.int .i64 x.2.1)), .one (.sc (.int .i64 x.2.2.1)), .one .any, .one .any, .one .any, .one .any, .one .any, .one .any, .one .any, .one .any, .one .any, .one .any, .one .any, .one .any, .one .any, .one .any, .one .any, .one .any, .one .any], mem := [.live { segs := [.xs (.int .u64) 25 x.2.2.2.1], own := .own }, .live { segs := [.xs (.int .u8) x.2.2.2.2.1 x.2.2.2.2.2.1], own := .own }] }
noncomputable def p_ref03_bytes_l3_F (N : Nat) (β : Type) (x : (Nat × Int × Int × List Int × Nat × List Int × Unit)) (kn : (Nat × Int × Int × List Int × Nat × List Int × Unit) → Option β) (ke : ((Nat × Nat × List Int × Unit)) → Option β) : Option β :=
  if (x.2.2.1 < x.2.1) then
    if 0 ≤ (IntKind.i64.wrap (Int.tdiv x.2.2.1 (8:Int))) then (
    if (IntKind.i64.wrap (Int.tdiv x.2.2.1 (8:Int))) < 25 then (
    if ((IntKind.i64.wrap (Int.tdiv x.2.2.1 (8:Int))).toNat) < 25 then (
    if (IntKind.u64.wrap (IntKind.i64.wrap ((8:Int) * (Int.tmod x.2.2.1 (8:Int))))) < 0 then none else (
    if (x.1 + 1) * 1 ≤ 140737488355328 then (
    kn ((x.1 + 1), x.2.1, (IntKind.i64.wrap (x.2.2.1 + (1:Int))), x.2.2.2.1, (x.2.2.2.2.1 + 1), (x.2.2.2.2.2.1 ++ (List.set (List.replicate 1 0) 0 (IntKind.u8.wrap (ishr IntKind.u64 (List.getD x.2.2.2.1 ((IntKind.i64.wrap (Int.tdiv x.2.2.1 (8:Int))).toNat) 0) (IntKind.u64.wrap (IntKind.i64.wrap ((8:Int) * (Int.tmod x.2.2.1 (8:Int))))))))), ())) else none)) else none) else none) else none
  else
    ke (x.1, x.2.2.2.2.1, x.2.2.2.2.2.1, ())
noncomputable def p_ref03_bytes_l3_go : Go' ((Nat × Nat × List Int × Unit)) := fun y K => K (.exit 0) { tmps := [.one .any, .one .any, .one .any, .one .any, .one .any, .one (.sc (.vec 0 y.1 1)), .one .any, .one .any, .one .any, .one .any, .one .any, .one .any, .one .any, .one .any, .one .any, .one .any, .one .any, .one .any, .one .any, .one .any, .one .any, .one .any, .one .any, .one .any, .one .any, .one .any, .one .any], mem := [.live { segs := [.xs (.int .u8) y.2.1 y.2.2.1], own := .own }] }
noncomputable def p_ref03_bytes_l3_L (N : Nat) : LT := upd (LT.nil) 3 (loopE p_ref03_bytes_l3_S N (p_ref03_bytes_l3_F N) p_ref03_bytes_l3_go)
theorem p_ref03_bytes_l3_ok (N : Nat) : OkAll p_ref03_bytes_E p_ref03_bytes_H N (p_ref03_bytes_l3_L N) (subs p_ref03_bytes_c) :=
  addLoop (c := theLoop 3 p_ref03_bytes_c) (OkAll.nil) (by kernel_rfl) (fun x => by kernel_rfl) (fun β x kn ke => by kernel_rfl)
abbrev p_ref03_bytes_ks : List Kd := [.xs (.int .u64) 25, .int .i64]
abbrev p_ref03_bytes_rs : List Kd := [.sl (.int .u8)]
noncomputable def p_ref03_bytes (N : Nat) (x : List Int × Int × Unit) : Option (List Int) :=
  iter (p_ref03_bytes_l3_F N) N (0, x.2.1, (0:Int), x.1, 0, (List.replicate 0 0), ()) fun y1 => (
  some y1.2.2.1)
theorem p_ref03_bytes_eq (N : Nat) (x : Ds [.xs (.int .u64) 25, .int .i64]) : funL p_ref03_bytes_E p_ref03_bytes_H (p_ref03_bytes_l3_L N) N Go.Proofs.Try.f92 p_ref03_bytes_c [.xs (.int .u64) 25, .int .i64] [.sl (.int .u8)] x = p_ref03_bytes N x := by kernel_rfl
theorem p_ref03_bytes_Eok : p_ref03_bytes_E.Ok Go.Proofs.Try.prog := AE.of_ok (all_cons ty3_ok (all_cons ty5_ok (all_cons ty39_ok (all_cons ty51_ok (all_cons ty83_ok (all_cons ty84_ok all_nil)))))) all_nil
theorem p_ref03_bytes_ok {g : Ds [.xs (.int .u64) 25, .int .i64] → Option (Rs [.sl (.int .u8)])} (hg : ∀ x r, g x = some r → ∃ N, p_ref03_bytes N x = some r) : SigOk Go.Proofs.Try.prog 92 ⟨[.xs (.int .u64) 25, .int .i64], [.sl (.int .u8)], g⟩ :=
  fun_of (E := p_ref03_bytes_E) (H := p_ref03_bytes_H) (L := fun N => p_ref03_bytes_l3_L N) (c := p_ref03_bytes_c) (ks := p_ref03_bytes_ks) (rs := p_ref03_bytes_rs) (F := p_ref03_bytes) (p_ref03_bytes_Eok) mix Go.Proofs.Try.func92 (by kernel_rfl) (fun N => p_ref03_bytes_l3_ok N) p_ref03_bytes_eq hg

/-! (*livery/keccak.sponge).takes -/
noncomputable def p_keccak_sponge_takes_E : AE := AE.of [(3, ty3), (5, ty5), (39, ty39), (80, ty80), (84, ty84), (86, ty86)] [(93, ⟨[.io [.xs (.int .u64) 25, .int .i64, .int .i64], .int .u8], [.cat [.xs (.int .u64) 25, .int .i64, .int .i64]], g_keccak_sponge_put⟩), (89, ⟨[.xs (.int .u64) 25], [.xs (.int .u64) 25], g_keccak_Permute⟩)]
noncomputable def p_keccak_sponge_takes_H : Hints := [(1, [0, 1, 10, 11, 12]), (4, [0, 1, 10, 11, 12, 16, 17, 18]), (2000000, [0, 1]), (2000001, [0, 1, 10, 11, 12]), (2000002, [0, 1, 10, 11, 12]), (2000003, [0, 1, 10, 11, 12, 16, 17, 18]), (3000000, [])]
noncomputable def p_keccak_sponge_takes_c : Code := (Go.Proofs.Try.f88).body.getD .skip
noncomputable def p_keccak_sponge_takes_l4_S : Shape where
  h := { tmps := [.sc (.ptr 0 0 false), .sc (.int .u8), .any, .any, .any, .any, .any, .any, .any, .any, .sc (.frs (.int .u8)), .sc (.int .i64), .sc (.int .i64), .any, .any, .any, .sc (.fr (.int .u8)), .sc (.int .i64), .sc (.int .i64), .any, .any, .any, .any, .any, .any, .any, .any, .any, .any, .any, .any, .any, .any, .any, .any, .any, .any, .any, .any, .any, .any, .any, .any, .any, .any, .any, .any, .any, .any, .any, .any, .any, .any, .any, .any, .any, .any, .any, .any, .any, .any, .any, .any, .any, .any, .any, .any, .any, .any, .any, .any, .any, .any, .any, .any, .any, .any, .any], mem := [.live [.xs (.int .u64) (some 25), .one (.int .i64), .one (.int .i64)] (.mt 0)] }
  ks := [.int, .xss, .int, .int, .xs, .int, .int, .xs, .int, .int]
  st := fun x => { tmps := [.one (.sc (.ptr 0 0 none)), .one (.sc (.int .u8 x.1)), .one .any, .one .any, .one .any, .one .any, .one .any, .one .any, .one .any, .one .any, .one (.sc (.fr (.xss (.int .u8) x.2.1))), .one (.sc (.int .i64 x.2.2.1)), .one (.sc (.int .i64 x.2.2.2.1)), .one .any, .one .any, .one .any, .one (.sc (.fr (.xs (.int .u8) x.2.2.2.2.1))), .one (.sc (.int .i64 x.2.2.2.2.2.1)), .one (.sc (.int .i64 x.2.2.2.2.2.2.1)), .one .any, .one .any, .one .any, .one .any, .one .any, .one .any, .one .any, .one .any, .one .any, .one .any, .one .any, .one .any, .one .any, .one .any, .one .any, .one .any, .one .any, .one .any, .one .any, .one .any, .one .any, .one .any, .one .any, .one .any, .one .any, .one .any, .one .any, .one .any, .one .any, .one .any, .one .any, .one .any, .one .any, .one .any, .one .any, .one .any, .one .any, .one .any, .one .any, .one .any, .one .any, .one .any, .one .any, .one .any, .one .any, .one .any, .one .any, .one .any, .one .any, .one .any, .one .any, .one .any, .one .any, .one .any, .one .any, .one .any, .one .any, .one .any, .one .any], mem := [.live { segs := [.xs (.int .u64) 25 x.2.2.2.2.2.2.2.1, .one (.int .i64 x.2.2.2.2.2.2.2.2.1), .one (.int .i64 x.2.2.2.2.2.2.2.2.2.1)], own := .mt 0 }] }
noncomputable def p_keccak_sponge_takes_l4_F (N : Nat) (β : Type) (x : (Int × List (List Int) × Int × Int × List Int × Int × Int × List Int × Int × Int × Unit)) (kn : (Int × List (List Int) × Int × Int × List Int × Int × Int × List Int × Int × Int × Unit) → Option β) (ke : ((Int × List (List Int) × Int × Int × List Int × Int × Int × Unit)) → Option β) : Option β :=
  if (x.2.2.2.2.2.2.1 < x.2.2.2.2.2.1) then
    if 0 ≤ x.2.2.2.2.2.2.1 then (
    if x.2.2.2.2.2.2.1 < ((List.length x.2.2.2.2.1 : Nat) : Int) then (
    (g_keccak_sponge_put ((x.2.2.2.2.2.2.2.1, x.2.2.2.2.2.2.2.2.1, x.2.2.2.2.2.2.2.2.2.1, ()), (List.getD x.2.2.2.2.1 (x.2.2.2.2.2.2.1.toNat) 0), ())).bind fun r1 => (
    if ((IntKind.i64.wrap (r1.2.2.1 + (1:Int))) = r1.2.1) then
      (g_keccak_Permute (r1.1, ())).bind fun r2 => (
      kn (x.1, x.2.1, x.2.2.1, x.2.2.2.1, x.2.2.2.2.1, x.2.2.2.2.2.1, (IntKind.i64.wrap (x.2.2.2.2.2.2.1 + (1:Int))), r2, r1.2.1, (0:Int), ()))
    else
      kn (x.1, x.2.1, x.2.2.1, x.2.2.2.1, x.2.2.2.2.1, x.2.2.2.2.2.1, (IntKind.i64.wrap (x.2.2.2.2.2.2.1 + (1:Int))), r1.1, r1.2.1, (IntKind.i64.wrap (r1.2.2.1 + (1:Int))), ()))) else none) else none
  else
    ke (x.1, x.2.1, x.2.2.1, x.2.2.2.1, x.2.2.2.2.2.2.2.1, x.2.2.2.2.2.2.2.2.1, x.2.2.2.2.2.2.2.2.2.1, ())
noncomputable def p_keccak_sponge_takes_l4_go : Go' ((Int × List (List Int) × Int × Int × List Int × Int × Int × Unit)) := fun y K => K (.exit 2) { tmps := [.one (.sc (.ptr 0 0 none)), .one (.sc (.int .u8 y.1)), .one .any, .one .any, .one .any, .one .any, .one .any, .one .any, .one .any, .one .any, .one (.sc (.fr (.xss (.int .u8) y.2.1))), .one (.sc (.int .i64 y.2.2.1)), .one (.sc (.int .i64 y.2.2.2.1)), .one .any, .one .any, .one .any, .one .any, .one .any, .one .any, .one .any, .one .any, .one .any, .one .any, .one .any, .one .any, .one .any, .one .any, .one .any, .one .any, .one .any, .one .any, .one .any, .one .any, .one .any, .one .any, .one .any, .one .any, .one .any, .one .any, .one .any, .one .any, .one .any, .one .any, .one .any, .one .any, .one .any, .one .any, .one .any, .one .any, .one .any, .one .any, .one .any, .one .any, .one .any, .one .any, .one .any, .one .any, .one .any, .one .any, .one .any, .one .any, .one .any, .one .any, .one .any, .one .any, .one .any, .one .any, .one .any, .one .any, .one .any, .one .any, .one .any, .one .any, .one .any, .one .any, .one .any, .one .any, .one .any], mem := [.live { segs := [.xs (.int .u64) 25 y.2.2.2.2.1, .one (.int .i64 y.2.2.2.2.2.1), .one (.int .i64 y.2.2.2.2.2.2.1)], own := .mt 0 }] }
noncomputable def p_keccak_sponge_takes_l4_L (N : Nat) : LT := upd (LT.nil) 4 (loopE p_keccak_sponge_takes_l4_S N (p_keccak_sponge_takes_l4_F N) p_keccak_sponge_takes_l4_go)
theorem p_keccak_sponge_takes_l4_ok (N : Nat) : OkAll p_keccak_sponge_takes_E p_keccak_sponge_takes_H N (p_keccak_sponge_takes_l4_L N) (subs p_keccak_sponge_takes_c) :=
  addLoop (c := theLoop 4 p_keccak_sponge_takes_c) (OkAll.nil) (by kernel_rfl) (fun x => by kernel_rfl) (fun β x kn ke => by kernel_rfl)
noncomputable def p_keccak_sponge_takes_l1_S : Shape where
  h := { tmps := [.sc (.ptr 0 0 false), .sc (.int .u8), .any, .any, .any, .any, .any, .any, .any, .any, .sc (.frs (.int .u8)), .sc (.int .i64), .sc (.int .i64), .any, .any, .any, .any, .any, .any, .any, .any, .any, .any, .any, .any, .any, .any, .any, .any, .any, .any, .any, .any, .any, .any, .any, .any, .any, .any, .any, .any, .any, .any, .any, .any, .any, .any, .any, .any, .any, .any, .any, .any, .any, .any, .any, .any, .any, .any, .any, .any, .any, .any, .any, .any, .any, .any, .any, .any, .any, .any, .any, .any, .any, .any, .any, .any, .any], mem := [.live [.xs (.int .u64) (some 25), .one (.int .i64), .one (.int .i64)] (.mt 0)] }
  ks := [.int, .xss, .int, .int, .xs, .int, .int]
  st := fun x => { tmps := [.one (.sc (.ptr 0 0 none)), .one (.sc (.int .u8 x.1)), .one .any, .one .any, .one .any, .one .any, .one .any, .one .any, .one .any, .one .any, .one (.sc (.fr (.xss (.int .u8) x.2.1))), .one (.sc (.int .i64 x.2.2.1)), .one (.sc (.int .i64 x.2.2.2.1)), .one .any, .one .any, .one .any, .one .any, .one .any, .one .any, .one .any, .one .any, .one .any, .one .any, .one .any, .one .any, .one .any, .one .any, .one .any, .one .any, .one .any, .one .any, .one .any, .one .any, .one .any, .one .any, .one .any, .one .any, .one .any, .one .any, .one .any, .one .any, .one .any, .one .any, .one .any, .one .any, .one .any, .one .any, .one .any, .one .any, .one .any, .one .any, .one .any, .one .any, .one .any, .one .any, .one .any, .one .any, .one .any, .one .any, .one .any, .one .any, .one .any, .one .any, .one .any, .one .any, .one .any, .one .any, .one .any, .one .any, .one .any, .one .any, .one .any, .one .any, .one .any, .one .any, .one .any, .one .any, .one .any], mem := [.live { segs := [.xs (.int .u64) 25 x.2.2.2.2.1, .one (.int .i64 x.2.2.2.2.2.1), .one (.int .i64 x.2.2.2.2.2.2.1)], own := .mt 0 }] }
noncomputable def p_keccak_sponge_takes_l1_F (N : Nat) (β : Type) (x : (Int × List (List Int) × Int × Int × List Int × Int × Int × Unit)) (kn : (Int × List (List Int) × Int × Int × List Int × Int × Int × Unit) → Option β) (ke : ((Int × List Int × Int × Int × Unit)) → Option β) : Option β :=
  if (x.2.2.2.1 < x.2.2.1) then
    if 0 ≤ x.2.2.2.1 then (
    if x.2.2.2.1 < ((List.length x.2.1 : Nat) : Int) then (
    iter (p_keccak_sponge_takes_l4_F N) N (x.1, x.2.1, x.2.2.1, x.2.2.2.1, (List.getD x.2.1 (x.2.2.2.1.toNat) []), ((List.length (List.getD x.2.1 (x.2.2.2.1.toNat) []) : Nat) : Int), (0:Int), x.2.2.2.2.1, x.2.2.2.2.2.1, x.2.2.2.2.2.2.1, ()) fun y3 => (
    kn (y3.1, y3.2.1, y3.2.2.1, (IntKind.i64.wrap (y3.2.2.2.1 + (1:Int))), y3.2.2.2.2.1, y3.2.2.2.2.2.1, y3.2.2.2.2.2.2.1, ()))) else none) else none
  else
    ke (x.1, x.2.2.2.2.1, x.2.2.2.2.2.1, x.2.2.2.2.2.2.1, ())
noncomputable def p_keccak_sponge_takes_l1_go : Go' ((Int × List Int × Int × Int × Unit)) := fun y K => K (.exit 0) { tmps := [.one (.sc (.ptr 0 0 none)), .one (.sc (.int .u8 y.1)), .one .any, .one .any, .one .any, .one .any, .one .any, .one .any, .one .any, .one .any, .one .any, .one .any, .one .any, .one .any, .one .any, .one .any, .one .any, .one .any, .one .any, .one .any, .one .any, .one .any, .one .any, .one .any, .one .any, .one .any, .one .any, .one .any, .one .any, .one .any, .one .any, .one .any, .one .any, .one .any, .one .any, .one .any, .one .any, .one .any, .one .any, .one .any, .one .any, .one .any, .one .any, .one .any, .one .any, .one .any, .one .any, .one .any, .one .any, .one .any, .one .any, .one .any, .one .any, .one .any, .one .any, .one .any, .one .any, .one .any, .one .any, .one .any, .one .any, .one .any, .one .any, .one .any, .one .any, .one .any, .one .any, .one .any, .one .any, .one .any, .one .any, .one .any, .one .any, .one .any, .one .any, .one .any, .one .any, .one .any], mem := [.live { segs := [.xs (.int .u64) 25 y.2.1, .one (.int .i64 y.2.2.1), .one (.int .i64 y.2.2.2.1)], own := .mt 0 }] }
noncomputable def p_keccak_sponge_takes_l1_L (N : Nat) : LT := upd (p_keccak_sponge_takes_l4_L N) 1 (loopE p_keccak_sponge_takes_l1_S N (p_keccak_sponge_takes_l1_F N) p_keccak_sponge_takes_l1_go)
theorem p_keccak_sponge_takes_l1_ok (N : Nat) : OkAll p_keccak_sponge_takes_E p_keccak_sponge_takes_H N (p_keccak_sponge_takes_l1_L N) (subs p_keccak_sponge_takes_c) :=
  addLoop (c := theLoop 1 p_keccak_sponge_takes_c) (p_keccak_sponge_takes_l4_ok N) (by kernel_rfl) (fun x => by kernel_rfl) (fun β x kn ke => by kernel_rfl)
abbrev p_keccak_sponge_takes_ks : List Kd := [.io [.xs (.int .u64) 25, .int .i64, .int .i64], .int .u8, .sls (.int .u8)]
abbrev p_keccak_sponge_takes_rs : List Kd := [.cat [.xs (.int .u64) 25, .int .i64, .int .i64]]
noncomputable def p_keccak_sponge_takes (N : Nat) (x : (List Int × Int × Int × Unit) × Int × List (List Int) × Unit) : Option ((List Int × Int × Int × Unit)) :=
  iter (p_keccak_sponge_takes_l1_F N) N (x.2.1, x.2.2.1, ((List.length x.2.2.1 : Nat) : Int), (0:Int), x.1.1, x.1.2.1, x.1.2.2.1, ()) fun y4 => (
  (g_keccak_sponge_put ((y4.2.1, y4.2.2.1, y4.2.2.2.1, ()), y4.1, ())).bind fun r5 => (
  (g_keccak_sponge_put ((r5.1, r5.2.1, (IntKind.i64.wrap (r5.2.1 - (1:Int))), ()), (128:Int), ())).bind fun r6 => (
  (g_keccak_Permute (r6.1, ())).bind fun r7 => (
  some (r7, r6.2.1, (0:Int), ())))))
theorem p_keccak_sponge_takes_eq (N : Nat) (x : Ds [.io [.xs (.int .u64) 25, .int .i64, .int .i64], .int .u8, .sls (.int .u8)]) : funL p_keccak_sponge_takes_E p_keccak_sponge_takes_H (p_keccak_sponge_takes_l1_L N) N Go.Proofs.Try.f88 p_keccak_sponge_takes_c [.io [.xs (.int .u64) 25, .int .i64, .int .i64], .int .u8, .sls (.int .u8)] [.cat [.xs (.int .u64) 25, .int .i64, .int .i64]] x = p_keccak_sponge_takes N x := by kernel_rfl
theorem p_keccak_sponge_takes_Eok (he_keccak_sponge_put : SigOk Go.Proofs.Try.prog 93 ⟨[.io [.xs (.int .u64) 25, .int .i64, .int .i64], .int .u8], [.cat [.xs (.int .u64) 25, .int .i64, .int .i64]], g_keccak_sponge_put⟩) (he_keccak_Permute : SigOk Go.Proofs.Try.prog 89 ⟨[.xs (.int .u64) 25], [.xs (.int .u64) 25], g_keccak_Permute⟩) : p_keccak_sponge_takes_E.Ok Go.Proofs.Try.prog := AE.of_ok (all_cons ty3_ok (all_cons ty5_ok (all_cons ty39_ok (all_cons ty80_ok (all_cons ty84_ok (all_cons ty86_ok all_nil)))))) (all_cons ⟨he_keccak_sponge_put, enters_keccak_sponge_put⟩ (all_cons ⟨he_keccak_Permute, enters_keccak_Permute⟩ all_nil))
theorem p_keccak_sponge_takes_ok (he_keccak_sponge_put : SigOk Go.Proofs.Try.prog 93 ⟨[.io [.xs (.int .u64) 25, .int .i64, .int .i64], .int .u8], [.cat [.xs (.int .u64) 25, .int .i64, .int .i64]], g_keccak_sponge_put⟩) (he_keccak_Permute : SigOk Go.Proofs.Try.prog 89 ⟨[.xs (.int .u64) 25], [.xs (.int .u64) 25], g_keccak_Permute⟩) {g : Ds [.io [.xs (.int .u64) 25, .int .i64, .int .i64], .int .u8, .sls (.int .u8)] → Option (Rs [.cat [.xs (.int .u64) 25, .int .i64, .int .i64]])} (hg : ∀ x r, g x = some r → ∃ N, p_keccak_sponge_takes N x = some r) : SigOk Go.Proofs.Try.prog 88 ⟨[.io [.xs (.int .u64) 25, .int .i64, .int .i64], .int .u8, .sls (.int .u8)], [.cat [.xs (.int .u64) 25, .int .i64, .int .i64]], g⟩ :=
  fun_of (E := p_keccak_sponge_takes_E) (H := p_keccak_sponge_takes_H) (L := fun N => p_keccak_sponge_takes_l1_L N) (c := p_keccak_sponge_takes_c) (ks := p_keccak_sponge_takes_ks) (rs := p_keccak_sponge_takes_rs) (F := p_keccak_sponge_takes) (p_keccak_sponge_takes_Eok he_keccak_sponge_put he_keccak_Permute) mix Go.Proofs.Try.func88 (by kernel_rfl) (fun N => p_keccak_sponge_takes_l1_ok N) p_keccak_sponge_takes_eq hg

/-! (*livery/keccak.sponge).gives -/
noncomputable def p_keccak_sponge_gives_E : AE := AE.of [(3, ty3), (5, ty5), (39, ty39), (83, ty83), (84, ty84), (86, ty86)] [(89, ⟨[.xs (.int .u64) 25], [.xs (.int .u64) 25], g_keccak_Permute⟩)]
noncomputable def p_keccak_sponge_gives_H : Hints := [(1, [0, 1, 6, 7]), (2000000, []), (2000001, [0, 1, 6, 7]), (3000000, [])]
noncomputable def p_keccak_sponge_gives_c : Code := (Go.Proofs.Try.f85).body.getD .skip
noncomputable def p_keccak_sponge_gives_l1_S : Shape where
  h := { tmps := [.sc (.ptr 0 0 false), .sc (.vec 1 none 1), .any, .any, .any, .any, .sc (.int .i64), .sc (.int .i64), .any, .any, .any, .any, .any, .any, .any, .any, .any, .any, .any, .any, .any, .any, .any, .any, .any, .any, .any, .any, .any, .any, .any, .any, .any, .any, .any, .any, .any, .any, .any, .any, .any, .any, .any, .any, .any, .any, .any, .any, .any, .any, .any, .any, .any, .any, .any, .any, .any, .any, .any], mem := [.live [.xs (.int .u64) (some 25), .one (.int .i64), .one (.int .i64)] (.mt 0), .live [.xs (.int .u8) none] (.mt 1)] }
  ks := [.nat, .int, .int, .xs, .int, .int, .nat, .xs]
  st := fun x => { tmps := [.one (.sc (.ptr 0 0 none)), .one (.sc (.vec 1 x.1 1)), .one .any, .one .any, .one .any, .one .any, .one (.sc (.int .i64 x.2.1)), .one (.sc (.int .i64 x.2.2.1)), .one .any, .one .any, .one .any, .one .any, .one .any, .one .any, .one .any, .one .any, .one .any, .one .any, .one .any, .one .any, .one .any, .one .any, .one .any, .one .any, .one .any, .one .any, .one .any, .one .any, .one .any, .one .any, .one .any, .one .any, .one .any, .one .any, .one .any, .one .any, .one .any, .one .any, .one .any, .one .any, .one .any, .one .any, .one .any, .one .any, .one .any, .one .any, .one .any, .one .any, .one .any, .one .any, .one .any, .one .any, .one .any, .one .any, .one .any, .one .any, .one .any, .one .any, .one .any], mem := [.live { segs := [.xs (.int .u64) 25 x.2.2.2.1, .one (.int .i64 x.2.2.2.2.1), .one (.int .i64 x.2.2.2.2.2.1)], own := .mt 0 }, .live { segs := [.xs (.int .u8) x.2.2.2.2.2.2.1 x.2.2.2.2.2.2.2.1], own := .mt 1 }] }
noncomputable def p_keccak_sponge_gives_l1_F (N : Nat) (β : Type) (x : (Nat × Int × Int × List Int × Int × Int × Nat × List Int × Unit)) (kn : (Nat × Int × Int × List Int × Int × Int × Nat × List Int × Unit) → Option β) (ke : ((List Int × Int × Int × Nat × List Int × Unit)) → Option β) : Option β :=
  if (x.2.2.1 < x.2.1) then
    if (x.2.2.2.2.2.1 = x.2.2.2.2.1) then
      (g_keccak_Permute (x.2.2.2.1, ())).bind fun r1 => (
      if 0 ≤ (IntKind.i64.wrap (Int.tdiv (0:Int) (8:Int))) then (
      if (IntKind.i64.wrap (Int.tdiv (0:Int) (8:Int))) < 25 then (
      if ((IntKind.i64.wrap (Int.tdiv (0:Int) (8:Int))).toNat) < 25 then (
      if (IntKind.i64.wrap ((8:Int) * (Int.tmod (0:Int) (8:Int)))) < 0 then none else (
      if 0 ≤ x.2.2.1 then (
      if x.2.2.1 < ((x.1 : Nat) : Int) then (
      if (x.2.2.1.toNat) < x.2.2.2.2.2.2.1 then (
      kn (x.1, x.2.1, (IntKind.i64.wrap (x.2.2.1 + (1:Int))), r1, x.2.2.2.2.1, (IntKind.i64.wrap ((0:Int) + (1:Int))), x.2.2.2.2.2.2.1, (List.set x.2.2.2.2.2.2.2.1 (x.2.2.1.toNat) (IntKind.u8.wrap (ishr IntKind.u64 (List.getD r1 ((IntKind.i64.wrap (Int.tdiv (0:Int) (8:Int))).toNat) 0) (IntKind.i64.wrap ((8:Int) * (Int.tmod (0:Int) (8:Int))))))), ())) else none) else none) else none)) else none) else none) else none)
    else
      if 0 ≤ (IntKind.i64.wrap (Int.tdiv x.2.2.2.2.2.1 (8:Int))) then (
      if (IntKind.i64.wrap (Int.tdiv x.2.2.2.2.2.1 (8:Int))) < 25 then (
      if ((IntKind.i64.wrap (Int.tdiv x.2.2.2.2.2.1 (8:Int))).toNat) < 25 then (
      if (IntKind.i64.wrap ((8:Int) * (Int.tmod x.2.2.2.2.2.1 (8:Int)))) < 0 then none else (
      if 0 ≤ x.2.2.1 then (
      if x.2.2.1 < ((x.1 : Nat) : Int) then (
      if (x.2.2.1.toNat) < x.2.2.2.2.2.2.1 then (
      kn (x.1, x.2.1, (IntKind.i64.wrap (x.2.2.1 + (1:Int))), x.2.2.2.1, x.2.2.2.2.1, (IntKind.i64.wrap (x.2.2.2.2.2.1 + (1:Int))), x.2.2.2.2.2.2.1, (List.set x.2.2.2.2.2.2.2.1 (x.2.2.1.toNat) (IntKind.u8.wrap (ishr IntKind.u64 (List.getD x.2.2.2.1 ((IntKind.i64.wrap (Int.tdiv x.2.2.2.2.2.1 (8:Int))).toNat) 0) (IntKind.i64.wrap ((8:Int) * (Int.tmod x.2.2.2.2.2.1 (8:Int))))))), ())) else none) else none) else none)) else none) else none) else none
  else
    ke (x.2.2.2.1, x.2.2.2.2.1, x.2.2.2.2.2.1, x.2.2.2.2.2.2.1, x.2.2.2.2.2.2.2.1, ())
noncomputable def p_keccak_sponge_gives_l1_go : Go' ((List Int × Int × Int × Nat × List Int × Unit)) := fun y K => K (.exit 0) { tmps := [.one .any, .one .any, .one .any, .one .any, .one .any, .one .any, .one .any, .one .any, .one .any, .one .any, .one .any, .one .any, .one .any, .one .any, .one .any, .one .any, .one .any, .one .any, .one .any, .one .any, .one .any, .one .any, .one .any, .one .any, .one .any, .one .any, .one .any, .one .any, .one .any, .one .any, .one .any, .one .any, .one .any, .one .any, .one .any, .one .any, .one .any, .one .any, .one .any, .one .any, .one .any, .one .any, .one .any, .one .any, .one .any, .one .any, .one .any, .one .any, .one .any, .one .any, .one .any, .one .any, .one .any, .one .any, .one .any, .one .any, .one .any, .one .any, .one .any], mem := [.live { segs := [.xs (.int .u64) 25 y.1, .one (.int .i64 y.2.1), .one (.int .i64 y.2.2.1)], own := .mt 0 }, .live { segs := [.xs (.int .u8) y.2.2.2.1 y.2.2.2.2.1], own := .mt 1 }] }
noncomputable def p_keccak_sponge_gives_l1_L (N : Nat) : LT := upd (LT.nil) 1 (loopE p_keccak_sponge_gives_l1_S N (p_keccak_sponge_gives_l1_F N) p_keccak_sponge_gives_l1_go)
theorem p_keccak_sponge_gives_l1_ok (N : Nat) : OkAll p_keccak_sponge_gives_E p_keccak_sponge_gives_H N (p_keccak_sponge_gives_l1_L N) (subs p_keccak_sponge_gives_c) :=
  addLoop (c := theLoop 1 p_keccak_sponge_gives_c) (OkAll.nil) (by kernel_rfl) (fun x => by kernel_rfl) (fun β x kn ke => by kernel_rfl)
abbrev p_keccak_sponge_gives_ks : List Kd := [.io [.xs (.int .u64) 25, .int .i64, .int .i64], .ios (.int .u8)]
abbrev p_keccak_sponge_gives_rs : List Kd := [.cat [.xs (.int .u64) 25, .int .i64, .int .i64], .xv (.int .u8)]
noncomputable def p_keccak_sponge_gives (N : Nat) (x : (List Int × Int × Int × Unit) × List Int × Unit) : Option ((List Int × Int × Int × Unit) × List Int) :=
  iter (p_keccak_sponge_gives_l1_F N) N ((List.length x.2.1), (((List.length x.2.1) : Nat) : Int), (0:Int), x.1.1, x.1.2.1, x.1.2.2.1, (List.length x.2.1), x.2.1, ()) fun y2 => (
  some ((y2.1, y2.2.1, y2.2.2.1, ()), y2.2.2.2.2.1))
theorem p_keccak_sponge_gives_eq (N : Nat) (x : Ds [.io [.xs (.int .u64) 25, .int .i64, .int .i64], .ios (.int .u8)]) : funL p_keccak_sponge_gives_E p_keccak_sponge_gives_H (p_keccak_sponge_gives_l1_L N) N Go.Proofs.Try.f85 p_keccak_sponge_gives_c [.io [.xs (.int .u64) 25, .int .i64, .int .i64], .ios (.int .u8)] [.cat [.xs (.int .u64) 25, .int .i64, .int .i64], .xv (.int .u8)] x = p_keccak_sponge_gives N x := by kernel_rfl
theorem p_keccak_sponge_gives_Eok (he_keccak_Permute : SigOk Go.Proofs.Try.prog 89 ⟨[.xs (.int .u64) 25], [.xs (.int .u64) 25], g_keccak_Permute⟩) : p_keccak_sponge_gives_E.Ok Go.Proofs.Try.prog := AE.of_ok (all_cons ty3_ok (all_cons ty5_ok (all_cons ty39_ok (all_cons ty83_ok (all_cons ty84_ok (all_cons ty86_ok all_nil)))))) (all_cons ⟨he_keccak_Permute, enters_keccak_Permute⟩ all_nil)
theorem p_keccak_sponge_gives_ok (he_keccak_Permute : SigOk Go.Proofs.Try.prog 89 ⟨[.xs (.int .u64) 25], [.xs (.int .u64) 25], g_keccak_Permute⟩) {g : Ds [.io [.xs (.int .u64) 25, .int .i64, .int .i64], .ios (.int .u8)] → Option (Rs [.cat [.xs (.int .u64) 25, .int .i64, .int .i64], .xv (.int .u8)])} (hg : ∀ x r, g x = some r → ∃ N, p_keccak_sponge_gives N x = some r) : SigOk Go.Proofs.Try.prog 85 ⟨[.io [.xs (.int .u64) 25, .int .i64, .int .i64], .ios (.int .u8)], [.cat [.xs (.int .u64) 25, .int .i64, .int .i64], .xv (.int .u8)], g⟩ :=
  fun_of (E := p_keccak_sponge_gives_E) (H := p_keccak_sponge_gives_H) (L := fun N => p_keccak_sponge_gives_l1_L N) (c := p_keccak_sponge_gives_c) (ks := p_keccak_sponge_gives_ks) (rs := p_keccak_sponge_gives_rs) (F := p_keccak_sponge_gives) (p_keccak_sponge_gives_Eok he_keccak_Permute) mix Go.Proofs.Try.func85 (by kernel_rfl) (fun N => p_keccak_sponge_gives_l1_ok N) p_keccak_sponge_gives_eq hg

/-! livery/keccak.started -/
noncomputable def p_keccak_started_E : AE := AE.of [(3, ty3), (4, ty4), (84, ty84), (86, ty86), (88, ty88)] [(88, ⟨[.io [.xs (.int .u64) 25, .int .i64, .int .i64], .int .u8, .sls (.int .u8)], [.cat [.xs (.int .u64) 25, .int .i64, .int .i64]], g_keccak_sponge_takes⟩)]
noncomputable def p_keccak_started_H : Hints := [(3000000, [4])]
noncomputable def p_keccak_started_c : Code := (Go.Proofs.Try.f83).body.getD .skip
abbrev p_keccak_started_ks : List Kd := [.int .i64, .sls (.int .u8)]
abbrev p_keccak_started_rs : List Kd := [.op [.bool, .xs (.int .u64) 25, .int .i64, .int .i64, .int .i64]]
noncomputable def p_keccak_started (N : Nat) (x : Int × List (List Int) × Unit) : Option ((Bool × List Int × Int × Int × Int × Unit)) :=
  (g_keccak_sponge_takes (((List.replicate 25 0), (List.getD (List.set [0] 0 x.1) 0 0), (List.getD [0] 0 0), ()), (31:Int), x.2.1, ())).bind fun r1 => (
  some (((List.getD (List.set [0] 0 (1:Int)) 0 0) != 0), r1.1, r1.2.1, r1.2.2.1, (List.getD [0] 0 0), ()))
theorem p_keccak_started_eq (N : Nat) (x : Ds [.int .i64, .sls (.int .u8)]) : funL p_keccak_started_E p_keccak_started_H (LT.nil) N Go.Proofs.Try.f83 p_keccak_started_c [.int .i64, .sls (.int .u8)] [.op [.bool, .xs (.int .u64) 25, .int .i64, .int .i64, .int .i64]] x = p_keccak_started N x := by kernel_rfl
theorem p_keccak_started_Eok (he_keccak_sponge_takes : SigOk Go.Proofs.Try.prog 88 ⟨[.io [.xs (.int .u64) 25, .int .i64, .int .i64], .int .u8, .sls (.int .u8)], [.cat [.xs (.int .u64) 25, .int .i64, .int .i64]], g_keccak_sponge_takes⟩) : p_keccak_started_E.Ok Go.Proofs.Try.prog := AE.of_ok (all_cons ty3_ok (all_cons ty4_ok (all_cons ty84_ok (all_cons ty86_ok (all_cons ty88_ok all_nil))))) (all_cons ⟨he_keccak_sponge_takes, enters_keccak_sponge_takes⟩ all_nil)
theorem p_keccak_started_ok (he_keccak_sponge_takes : SigOk Go.Proofs.Try.prog 88 ⟨[.io [.xs (.int .u64) 25, .int .i64, .int .i64], .int .u8, .sls (.int .u8)], [.cat [.xs (.int .u64) 25, .int .i64, .int .i64]], g_keccak_sponge_takes⟩) {g : Ds [.int .i64, .sls (.int .u8)] → Option (Rs [.op [.bool, .xs (.int .u64) 25, .int .i64, .int .i64, .int .i64]])} (hg : ∀ x r, g x = some r → ∃ N, p_keccak_started N x = some r) : SigOk Go.Proofs.Try.prog 83 ⟨[.int .i64, .sls (.int .u8)], [.op [.bool, .xs (.int .u64) 25, .int .i64, .int .i64, .int .i64]], g⟩ :=
  fun_of (E := p_keccak_started_E) (H := p_keccak_started_H) (L := fun N => LT.nil) (c := p_keccak_started_c) (ks := p_keccak_started_ks) (rs := p_keccak_started_rs) (F := p_keccak_started) (p_keccak_started_Eok he_keccak_sponge_takes) mix Go.Proofs.Try.func83 (by kernel_rfl) (fun N => OkAll.nil) p_keccak_started_eq hg

/-! livery/keccak.Shake128 -/
noncomputable def p_keccak_Shake128_E : AE := AE.of [] [(83, ⟨[.int .i64, .sls (.int .u8)], [.op [.bool, .xs (.int .u64) 25, .int .i64, .int .i64, .int .i64]], g_keccak_started⟩)]
noncomputable def p_keccak_Shake128_H : Hints := [(3000000, [2])]
noncomputable def p_keccak_Shake128_c : Code := (Go.Proofs.Try.f72).body.getD .skip
abbrev p_keccak_Shake128_ks : List Kd := [.sls (.int .u8)]
abbrev p_keccak_Shake128_rs : List Kd := [.op [.bool, .xs (.int .u64) 25, .int .i64, .int .i64, .int .i64]]
noncomputable def p_keccak_Shake128 (N : Nat) (x : List (List Int) × Unit) : Option ((Bool × List Int × Int × Int × Int × Unit)) :=
  (g_keccak_started ((168:Int), x.1, ())).bind fun r1 => (
  some ((decide (r1.1 = true)), r1.2.1, r1.2.2.1, r1.2.2.2.1, r1.2.2.2.2.1, ()))
theorem p_keccak_Shake128_eq (N : Nat) (x : Ds [.sls (.int .u8)]) : funL p_keccak_Shake128_E p_keccak_Shake128_H (LT.nil) N Go.Proofs.Try.f72 p_keccak_Shake128_c [.sls (.int .u8)] [.op [.bool, .xs (.int .u64) 25, .int .i64, .int .i64, .int .i64]] x = p_keccak_Shake128 N x := by kernel_rfl
theorem p_keccak_Shake128_Eok (he_keccak_started : SigOk Go.Proofs.Try.prog 83 ⟨[.int .i64, .sls (.int .u8)], [.op [.bool, .xs (.int .u64) 25, .int .i64, .int .i64, .int .i64]], g_keccak_started⟩) : p_keccak_Shake128_E.Ok Go.Proofs.Try.prog := AE.of_ok all_nil (all_cons ⟨he_keccak_started, enters_keccak_started⟩ all_nil)
theorem p_keccak_Shake128_ok (he_keccak_started : SigOk Go.Proofs.Try.prog 83 ⟨[.int .i64, .sls (.int .u8)], [.op [.bool, .xs (.int .u64) 25, .int .i64, .int .i64, .int .i64]], g_keccak_started⟩) {g : Ds [.sls (.int .u8)] → Option (Rs [.op [.bool, .xs (.int .u64) 25, .int .i64, .int .i64, .int .i64]])} (hg : ∀ x r, g x = some r → ∃ N, p_keccak_Shake128 N x = some r) : SigOk Go.Proofs.Try.prog 72 ⟨[.sls (.int .u8)], [.op [.bool, .xs (.int .u64) 25, .int .i64, .int .i64, .int .i64]], g⟩ :=
  fun_of (E := p_keccak_Shake128_E) (H := p_keccak_Shake128_H) (L := fun N => LT.nil) (c := p_keccak_Shake128_c) (ks := p_keccak_Shake128_ks) (rs := p_keccak_Shake128_rs) (F := p_keccak_Shake128) (p_keccak_Shake128_Eok he_keccak_started) mix Go.Proofs.Try.func72 (by kernel_rfl) (fun N => OkAll.nil) p_keccak_Shake128_eq hg

/-! (*livery/keccak.Xof).Read -/
noncomputable def p_keccak_Xof_Read_E : AE := AE.of [(3, ty3), (5, ty5), (39, ty39), (86, ty86), (88, ty88)] [(84, ⟨[.io [.bool, .xs (.int .u64) 25, .int .i64, .int .i64, .int .i64]], [.bool, .cat [.bool, .xs (.int .u64) 25, .int .i64, .int .i64, .int .i64]], g_keccak_Xof_none⟩), (79, ⟨[.int .i64], [.int .i64], g_keccak_may⟩), (85, ⟨[.io [.xs (.int .u64) 25, .int .i64, .int .i64], .ios (.int .u8)], [.cat [.xs (.int .u64) 25, .int .i64, .int .i64], .xv (.int .u8)], g_keccak_sponge_gives⟩)]
noncomputable def p_keccak_Xof_Read_H : Hints := [(3000000, [4, 5])]
noncomputable def p_keccak_Xof_Read_c : Code := (Go.Proofs.Try.f73).body.getD .skip
abbrev p_keccak_Xof_Read_ks : List Kd := [.io [.bool, .xs (.int .u64) 25, .int .i64, .int .i64, .int .i64], .int .i64]
abbrev p_keccak_Xof_Read_rs : List Kd := [.sl (.int .u8), .int .i64, .cat [.bool, .xs (.int .u64) 25, .int .i64, .int .i64, .int .i64]]
noncomputable def p_keccak_Xof_Read (N : Nat) (x : (Bool × List Int × Int × Int × Int × Unit) × Int × Unit) : Option (List Int × Int × (Bool × List Int × Int × Int × Int × Unit)) :=
  (g_keccak_Xof_none (((decide (x.1.1 = true)), x.1.2.1, x.1.2.2.1, x.1.2.2.2.1, x.1.2.2.2.2.1, ()), ())).bind fun r1 => (
  if (r1.1 = true) then
    some ([], (2:Int), ((decide (r1.2.1 = true)), r1.2.2.1, r1.2.2.2.1, r1.2.2.2.2.1, r1.2.2.2.2.2.1, ()))
  else
    (g_keccak_may (x.2.1, ())).bind fun r2 => (
    if (r2 ≠ (0:Int)) then
      some ([], r2, ((decide (r1.2.1 = true)), r1.2.2.1, r1.2.2.2.1, r1.2.2.2.2.1, r1.2.2.2.2.2.1, ()))
    else
      if 0 ≤ x.2.1 then (
      if x.2.1 = x.2.1 then (
      if x.2.1 * 1 ≤ 281474976710656 then (
      (g_keccak_sponge_gives ((r1.2.2.1, r1.2.2.2.1, r1.2.2.2.2.1, ()), (List.replicate (x.2.1.toNat) 0), ())).bind fun r3 => (
      some (r3.2, (0:Int), ((decide (r1.2.1 = true)), r3.1.1, r3.1.2.1, r3.1.2.2.1, (IntKind.i64.wrap (r1.2.2.2.2.2.1 + x.2.1)), ())))) else none) else none) else none))
theorem p_keccak_Xof_Read_eq (N : Nat) (x : Ds [.io [.bool, .xs (.int .u64) 25, .int .i64, .int .i64, .int .i64], .int .i64]) : funL p_keccak_Xof_Read_E p_keccak_Xof_Read_H (LT.nil) N Go.Proofs.Try.f73 p_keccak_Xof_Read_c [.io [.bool, .xs (.int .u64) 25, .int .i64, .int .i64, .int .i64], .int .i64] [.sl (.int .u8), .int .i64, .cat [.bool, .xs (.int .u64) 25, .int .i64, .int .i64, .int .i64]] x = p_keccak_Xof_Read N x := by kernel_rfl
theorem p_keccak_Xof_Read_Eok (he_keccak_Xof_none : SigOk Go.Proofs.Try.prog 84 ⟨[.io [.bool, .xs (.int .u64) 25, .int .i64, .int .i64, .int .i64]], [.bool, .cat [.bool, .xs (.int .u64) 25, .int .i64, .int .i64, .int .i64]], g_keccak_Xof_none⟩) (he_keccak_may : SigOk Go.Proofs.Try.prog 79 ⟨[.int .i64], [.int .i64], g_keccak_may⟩) (he_keccak_sponge_gives : SigOk Go.Proofs.Try.prog 85 ⟨[.io [.xs (.int .u64) 25, .int .i64, .int .i64], .ios (.int .u8)], [.cat [.xs (.int .u64) 25, .int .i64, .int .i64], .xv (.int .u8)], g_keccak_sponge_gives⟩) : p_keccak_Xof_Read_E.Ok Go.Proofs.Try.prog := AE.of_ok (all_cons ty3_ok (all_cons ty5_ok (all_cons ty39_ok (all_cons ty86_ok (all_cons ty88_ok all_nil))))) (all_cons ⟨he_keccak_Xof_none, enters_keccak_Xof_none⟩ (all_cons ⟨he_keccak_may, enters_keccak_may⟩ (all_cons ⟨he_keccak_sponge_gives, enters_keccak_sponge_gives⟩ all_nil)))
theorem p_keccak_Xof_Read_ok (he_keccak_Xof_none : SigOk Go.Proofs.Try.prog 84 ⟨[.io [.bool, .xs (.int .u64) 25, .int .i64, .int .i64, .int .i64]], [.bool, .cat [.bool, .xs (.int .u64) 25, .int .i64, .int .i64, .int .i64]], g_keccak_Xof_none⟩) (he_keccak_may : SigOk Go.Proofs.Try.prog 79 ⟨[.int .i64], [.int .i64], g_keccak_may⟩) (he_keccak_sponge_gives : SigOk Go.Proofs.Try.prog 85 ⟨[.io [.xs (.int .u64) 25, .int .i64, .int .i64], .ios (.int .u8)], [.cat [.xs (.int .u64) 25, .int .i64, .int .i64], .xv (.int .u8)], g_keccak_sponge_gives⟩) {g : Ds [.io [.bool, .xs (.int .u64) 25, .int .i64, .int .i64, .int .i64], .int .i64] → Option (Rs [.sl (.int .u8), .int .i64, .cat [.bool, .xs (.int .u64) 25, .int .i64, .int .i64, .int .i64]])} (hg : ∀ x r, g x = some r → ∃ N, p_keccak_Xof_Read N x = some r) : SigOk Go.Proofs.Try.prog 73 ⟨[.io [.bool, .xs (.int .u64) 25, .int .i64, .int .i64, .int .i64], .int .i64], [.sl (.int .u8), .int .i64, .cat [.bool, .xs (.int .u64) 25, .int .i64, .int .i64, .int .i64]], g⟩ :=
  fun_of (E := p_keccak_Xof_Read_E) (H := p_keccak_Xof_Read_H) (L := fun N => LT.nil) (c := p_keccak_Xof_Read_c) (ks := p_keccak_Xof_Read_ks) (rs := p_keccak_Xof_Read_rs) (F := p_keccak_Xof_Read) (p_keccak_Xof_Read_Eok he_keccak_Xof_none he_keccak_may he_keccak_sponge_gives) mix Go.Proofs.Try.func73 (by kernel_rfl) (fun N => OkAll.nil) p_keccak_Xof_Read_eq hg

/-! livery/liveryref03.Sponge -/
noncomputable def p_ref03_Sponge_E : AE := AE.of [(3, ty3), (5, ty5), (39, ty39), (51, ty51), (80, ty80), (83, ty83), (84, ty84)] [(90, ⟨[.sls (.int .u8)], [.sl (.int .u8)], g_ref01_Join⟩), (91, ⟨[.xs (.int .u64) 25], [.xs (.int .u64) 25], g_ref03_Permute⟩), (92, ⟨[.xs (.int .u64) 25, .int .i64], [.sl (.int .u8)], g_ref03_bytes⟩)]
noncomputable def p_ref03_Sponge_H : Hints := [(2, [0, 3, 9]), (7, [0, 3, 9, 10, 11]), (10, [0, 3, 9, 10, 11, 42, 43]), (16, [0, 3, 10, 13]), (2000000, [0, 3, 9]), (2000001, [0, 3, 9]), (2000002, [0, 3, 10]), (2000003, [0, 3, 9, 10, 11]), (2000004, [0, 3, 9, 10, 11]), (2000005, [0, 3, 9, 10, 11, 42, 43]), (2000006, [13]), (2000007, [0, 3, 10, 13]), (3000000, [8])]
noncomputable def p_ref03_Sponge_c : Code := (Go.Proofs.Try.f86).body.getD .skip
noncomputable def p_ref03_Sponge_l2_S : Shape where
  h := { tmps := [.sc (.int .i64), .any, .any, .sc (.int .i64), .any, .any, .any, .any, .any, .sc (.vec 0 none 1), .any, .any, .any, .any, .any, .any, .any, .any, .any, .any, .any, .any, .any, .any, .any, .any, .any, .any, .any, .any, .any, .any, .any, .any, .any, .any, .any, .any, .any, .any, .any, .any, .any, .any, .any, .any, .any, .any, .any, .any, .any, .any, .any, .any, .any, .any, .any, .any, .any, .any, .any, .any, .any, .any, .any, .any, .any, .any, .any, .any, .any, .any, .any, .any, .any, .any, .any, .any, .any, .any, .any, .any, .any, .any, .any, .any, .any, .any], mem := [.live [.xs (.int .u8) none] (.own)] }
  ks := [.int, .int, .nat, .nat, .xs]
  st := fun x => { tmps := [.one (.sc (.int .i64 x.1)), .one .any, .one .any, .one (.sc (.int .i64 x.2.1)), .one .any, .one .any, .one .any, .one .any, .one .any, .one (.sc (.vec 0 x.2.2.1 1)), .one .any, .one .any, .one .any, .one .any, .one .any, .one .any, .one .any, .one .any, .one .any, .one .any, .one .any, .one .any, .one .any, .one .any, .one .any, .one .any, .one .any, .one .any, .one .any, .one .any, .one .any, .one .any, .one .any, .one .any, .one .any, .one .any, .one .any, .one .any, .one .any, .one .any, .one .any, .one .any, .one .any, .one .any, .one .any, .one .any, .one .any, .one .any, .one .any, .one .any, .one .any, .one .any, .one .any, .one .any, .one .any, .one .any, .one .any, .one .any, .one .any, .one .any, .one .any, .one .any, .one .any, .one .any, .one .any, .one .any, .one .any, .one .any, .one .any, .one .any, .one .any, .one .any, .one .any, .one .any, .one .any, .one .any, .one .any, .one .any, .one .any, .one .any, .one .any, .one .any, .one .any, .one .any, .one .any, .one .any, .one .any, .one .any], mem := [.live { segs := [.xs (.int .u8) x.2.2.2.1 x.2.2.2.2.1], own := .own }] }
noncomputable def p_ref03_Sponge_l2_F (N : Nat) (β : Type) (x : (Int × Int × Nat × Nat × List Int × Unit)) (kn : (Int × Int × Nat × Nat × List Int × Unit) → Option β) (ke : ((Int × Int × Nat × Nat × List Int × Unit)) → Option β) : Option β :=
  if x.1 = 0 then none else (
  if ((Int.tmod ((x.2.2.1 : Nat) : Int) x.1) ≠ (0:Int)) then
    if (x.2.2.1 + 1) * 1 ≤ 140737488355328 then (
    kn (x.1, x.2.1, (x.2.2.1 + 1), (x.2.2.2.1 + 1), (x.2.2.2.2.1 ++ (List.set (List.replicate 1 0) 0 (0:Int))), ())) else none
  else
    ke (x.1, x.2.1, x.2.2.1, x.2.2.2.1, x.2.2.2.2.1, ()))
noncomputable def p_ref03_Sponge_l2_go : Go' ((Int × Int × Nat × Nat × List Int × Unit)) := fun y K => K (.exit 0) { tmps := [.one (.sc (.int .i64 y.1)), .one .any, .one .any, .one (.sc (.int .i64 y.2.1)), .one .any, .one .any, .one .any, .one .any, .one .any, .one (.sc (.vec 0 y.2.2.1 1)), .one .any, .one .any, .one .any, .one .any, .one .any, .one .any, .one .any, .one .any, .one .any, .one .any, .one .any, .one .any, .one .any, .one .any, .one .any, .one .any, .one .any, .one .any, .one .any, .one .any, .one .any, .one .any, .one .any, .one .any, .one .any, .one .any, .one .any, .one .any, .one .any, .one .any, .one .any, .one .any, .one .any, .one .any, .one .any, .one .any, .one .any, .one .any, .one .any, .one .any, .one .any, .one .any, .one .any, .one .any, .one .any, .one .any, .one .any, .one .any, .one .any, .one .any, .one .any, .one .any, .one .any, .one .any, .one .any, .one .any, .one .any, .one .any, .one .any, .one .any, .one .any, .one .any, .one .any, .one .any, .one .any, .one .any, .one .any, .one .any, .one .any, .one .any, .one .any, .one .any, .one .any, .one .any, .one .any, .one .any, .one .any, .one .any], mem := [.live { segs := [.xs (.int .u8) y.2.2.2.1 y.2.2.2.2.1], own := .own }] }
noncomputable def p_ref03_Sponge_l2_L (N : Nat) : LT := upd (LT.nil) 2 (loopE p_ref03_Sponge_l2_S N (p_ref03_Sponge_l2_F N) p_ref03_Sponge_l2_go)
theorem p_ref03_Sponge_l2_ok (N : Nat) : OkAll p_ref03_Sponge_E p_ref03_Sponge_H N (p_ref03_Sponge_l2_L N) (subs p_ref03_Sponge_c) :=
  addLoop (c := theLoop 2 p_ref03_Sponge_c) (OkAll.nil) (by kernel_rfl) (fun x => by kernel_rfl) (fun β x kn ke => by kernel_rfl)
noncomputable def p_ref03_Sponge_l10_S : Shape where
  h := { tmps := [.sc (.int .i64), .any, .any, .sc (.int .i64), .any, .any, .any, .any, .any, .sc (.vec 0 none 1), .sc (.ptr 1 0 false), .sc (.int .i64), .any, .any, .any, .any, .any, .any, .any, .any, .any, .any, .any, .any, .any, .any, .any, .any, .any, .any, .any, .any, .any, .any, .any, .any, .any, .any, .any, .any, .any, .any, .sc (.int .i64), .sc (.int .i64), .any, .any, .any, .any, .any, .any, .any, .any, .any, .any, .any, .any, .any, .any, .any, .any, .any, .any, .any, .any, .any, .any, .any, .any, .any, .any, .any, .any, .any, .any, .any, .any, .any, .any, .any, .any, .any, .any, .any, .any, .any, .any, .any, .any], mem := [.live [.xs (.int .u8) none] (.own), .live [.xs (.int .u64) (some 25)] (.own)] }
  ks := [.int, .int, .nat, .int, .int, .int, .nat, .xs, .xs]
  st := fun x => { tmps := [.one (.sc (.int .i64 x.1)), .one .any, .one .any, .one (.sc (.int .i64 x.2.1)), .one .any, .one .any, .one .any, .one .any, .one .any, .one (.sc (.vec 0 x.2.2.1 1)), .one (.sc (.ptr 1 0 none)), .one (.sc (.int .i64 x.2.2.2.1)), .one .any, .one .any, .one .any, .one .any, .one .any, .one .any, .one .any, .one .any, .one .any, .one .any, .one .any, .one .any, .one .any, .one .any, .one .any, .one .any, .one .any, .one .any, .one .any, .one .any, .one .any, .one .any, .one .any, .one .any, .one .any, .one .any, .one .any, .one .any, .one .any, .one .any, .one (.sc (.int .i64 x.2.2.2.2.1)), .one (.sc (.int .i64 x.2.2.2.2.2.1)), .one .any, .one .any, .one .any, .one .any, .one .any, .one .any, .one .any, .one .any, .one .any, .one .any, .one .any, .one .any, .one .any, .one .any, .one .any, .one .any, .one .any, .one .any, .one .any, .one .any, .one .any, .one .any, .one .any, .one .any, .one .any, .one .any, .one .any, .one .any, .one .any, .one .any, .one .any, .one .any, .one .any, .one .any, .one .any, .one .any, .one .any, .one .any, .one .any, .one .any, .one .any, .one .any, .one .any, .one .any], mem := [.live { segs := [.xs (.int .u8) x.2.2.2.2.2.2.1 x.2.2.2.2.2.2.2.1], own := .own }, .live { segs := [.xs (.int .u64) 25 x.2.2.2.2.2.2.2.2.1], own := .own }] }
noncomputable def p_ref03_Sponge_l10_F (N : Nat) (β : Type) (x : (Int × Int × Nat × Int × Int × Int × Nat × List Int × List Int × Unit)) (kn : (Int × Int × Nat × Int × Int × Int × Nat × List Int × List Int × Unit) → Option β) (ke : ((Int × Int × Nat × Int × Nat × List Int × List Int × Unit)) → Option β) : Option β :=
  if (x.2.2.2.2.2.1 < x.2.2.2.2.1) then
    if 0 ≤ (IntKind.i64.wrap (Int.tdiv x.2.2.2.2.2.1 (8:Int))) then (
    if (IntKind.i64.wrap (Int.tdiv x.2.2.2.2.2.1 (8:Int))) < 25 then (
    if ((IntKind.i64.wrap (Int.tdiv x.2.2.2.2.2.1 (8:Int))).toNat) < 25 then (
    if 0 ≤ (IntKind.i64.wrap (x.2.2.2.1 + x.2.2.2.2.2.1)) then (
    if (IntKind.i64.wrap (x.2.2.2.1 + x.2.2.2.2.2.1)) < ((x.2.2.1 : Nat) : Int) then (
    if ((IntKind.i64.wrap (x.2.2.2.1 + x.2.2.2.2.2.1)).toNat) < x.2.2.2.2.2.2.1 then (
    if (IntKind.u64.wrap (IntKind.i64.wrap ((8:Int) * (Int.tmod x.2.2.2.2.2.1 (8:Int))))) < 0 then none else (
    if 0 ≤ (IntKind.i64.wrap (Int.tdiv x.2.2.2.2.2.1 (8:Int))) then (
    if (IntKind.i64.wrap (Int.tdiv x.2.2.2.2.2.1 (8:Int))) < 25 then (
    if ((IntKind.i64.wrap (Int.tdiv x.2.2.2.2.2.1 (8:Int))).toNat) < 25 then (
    kn (x.1, x.2.1, x.2.2.1, x.2.2.2.1, x.2.2.2.2.1, (IntKind.i64.wrap (x.2.2.2.2.2.1 + (1:Int))), x.2.2.2.2.2.2.1, x.2.2.2.2.2.2.2.1, (List.set x.2.2.2.2.2.2.2.2.1 ((IntKind.i64.wrap (Int.tdiv x.2.2.2.2.2.1 (8:Int))).toNat) (ixor IntKind.u64 (List.getD x.2.2.2.2.2.2.2.2.1 ((IntKind.i64.wrap (Int.tdiv x.2.2.2.2.2.1 (8:Int))).toNat) 0) (ishl IntKind.u64 (IntKind.u64.wrap (List.getD x.2.2.2.2.2.2.2.1 ((IntKind.i64.wrap (x.2.2.2.1 + x.2.2.2.2.2.1)).toNat) 0)) (IntKind.u64.wrap (IntKind.i64.wrap ((8:Int) * (Int.tmod x.2.2.2.2.2.1 (8:Int)))))))), ())) else none) else none) else none)) else none) else none) else none) else none) else none) else none
  else
    ke (x.1, x.2.1, x.2.2.1, x.2.2.2.1, x.2.2.2.2.2.2.1, x.2.2.2.2.2.2.2.1, x.2.2.2.2.2.2.2.2.1, ())
noncomputable def p_ref03_Sponge_l10_go : Go' ((Int × Int × Nat × Int × Nat × List Int × List Int × Unit)) := fun y K => K (.exit 4) { tmps := [.one (.sc (.int .i64 y.1)), .one .any, .one .any, .one (.sc (.int .i64 y.2.1)), .one .any, .one .any, .one .any, .one .any, .one .any, .one (.sc (.vec 0 y.2.2.1 1)), .one (.sc (.ptr 1 0 none)), .one (.sc (.int .i64 y.2.2.2.1)), .one .any, .one .any, .one .any, .one .any, .one .any, .one .any, .one .any, .one .any, .one .any, .one .any, .one .any, .one .any, .one .any, .one .any, .one .any, .one .any, .one .any, .one .any, .one .any, .one .any, .one .any, .one .any, .one .any, .one .any, .one .any, .one .any, .one .any, .one .any, .one .any, .one .any, .one .any, .one .any, .one .any, .one .any, .one .any, .one .any, .one .any, .one .any, .one .any, .one .any, .one .any, .one .any, .one .any, .one .any, .one .any, .one .any, .one .any, .one .any, .one .any, .one .any, .one .any, .one .any, .one .any, .one .any, .one .any, .one .any, .one .any, .one .any, .one .any, .one .any, .one .any, .one .any, .one .any, .one .any, .one .any, .one .any, .one .any, .one .any, .one .any, .one .any, .one .any, .one .any, .one .any, .one .any, .one .any, .one .any], mem := [.live { segs := [.xs (.int .u8) y.2.2.2.2.1 y.2.2.2.2.2.1], own := .own }, .live { segs := [.xs (.int .u64) 25 y.2.2.2.2.2.2.1], own := .own }] }
noncomputable def p_ref03_Sponge_l10_L (N : Nat) : LT := upd (p_ref03_Sponge_l2_L N) 10 (loopE p_ref03_Sponge_l10_S N (p_ref03_Sponge_l10_F N) p_ref03_Sponge_l10_go)
theorem p_ref03_Sponge_l10_ok (N : Nat) : OkAll p_ref03_Sponge_E p_ref03_Sponge_H N (p_ref03_Sponge_l10_L N) (subs p_ref03_Sponge_c) :=
  addLoop (c := theLoop 10 p_ref03_Sponge_c) (p_ref03_Sponge_l2_ok N) (by kernel_rfl) (fun x => by kernel_rfl) (fun β x kn ke => by kernel_rfl)
noncomputable def p_ref03_Sponge_l7_S : Shape where
  h := { tmps := [.sc (.int .i64), .any, .any, .sc (.int .i64), .any, .any, .any, .any, .any, .sc (.vec 0 none 1), .sc (.ptr 1 0 false), .sc (.int .i64), .any, .any, .any, .any, .any, .any, .any, .any, .any, .any, .any, .any, .any, .any, .any, .any, .any, .any, .any, .any, .any, .any, .any, .any, .any, .any, .any, .any, .any, .any, .any, .any, .any, .any, .any, .any, .any, .any, .any, .any, .any, .any, .any, .any, .any, .any, .any, .any, .any, .any, .any, .any, .any, .any, .any, .any, .any, .any, .any, .any, .any, .any, .any, .any, .any, .any, .any, .any, .any, .any, .any, .any, .any, .any, .any, .any], mem := [.live [.xs (.int .u8) none] (.own), .live [.xs (.int .u64) (some 25)] (.own)] }
  ks := [.int, .int, .nat, .int, .nat, .xs, .xs]
  st := fun x => { tmps := [.one (.sc (.int .i64 x.1)), .one .any, .one .any, .one (.sc (.int .i64 x.2.1)), .one .any, .one .any, .one .any, .one .any, .one .any, .one (.sc (.vec 0 x.2.2.1 1)), .one (.sc (.ptr 1 0 none)), .one (.sc (.int .i64 x.2.2.2.1)), .one .any, .one .any, .one .any, .one .any, .one .any, .one .any, .one .any, .one .any, .one .any, .one .any, .one .any, .one .any, .one .any, .one .any, .one .any, .one .any, .one .any, .one .any, .one .any, .one .any, .one .any, .one .any, .one .any, .one .any, .one .any, .one .any, .one .any, .one .any, .one .any, .one .any, .one .any, .one .any, .one .any, .one .any, .one .any, .one .any, .one .any, .one .any, .one .any, .one .any, .one .any, .one .any, .one .any, .one .any, .one .any, .one .any, .one .any, .one .any, .one .any, .one .any, .one .any, .one .any, .one .any, .one .any, .one .any, .one .any, .one .any, .one .any, .one .any, .one .any, .one .any, .one .any, .one .any, .one .any, .one .any, .one .any, .one .any, .one .any, .one .any, .one .any, .one .any, .one .any, .one .any, .one .any, .one .any, .one .any], mem := [.live { segs := [.xs (.int .u8) x.2.2.2.2.1 x.2.2.2.2.2.1], own := .own }, .live { segs := [.xs (.int .u64) 25 x.2.2.2.2.2.2.1], own := .own }] }
noncomputable def p_ref03_Sponge_l7_F (N : Nat) (β : Type) (x : (Int × Int × Nat × Int × Nat × List Int × List Int × Unit)) (kn : (Int × Int × Nat × Int × Nat × List Int × List Int × Unit) → Option β) (ke : ((Int × Int × List Int × Unit)) → Option β) : Option β :=
  if (x.2.2.2.1 < ((x.2.2.1 : Nat) : Int)) then
    iter (p_ref03_Sponge_l10_F N) N (x.1, x.2.1, x.2.2.1, x.2.2.2.1, x.1, (0:Int), x.2.2.2.2.1, x.2.2.2.2.2.1, x.2.2.2.2.2.2.1, ()) fun y3 => (
    (g_ref03_Permute (y3.2.2.2.2.2.2.1, ())).bind fun r4 => (
    kn (y3.1, y3.2.1, y3.2.2.1, (IntKind.i64.wrap (y3.2.2.2.1 + y3.1)), y3.2.2.2.2.1, y3.2.2.2.2.2.1, r4, ())))
  else
    ke (x.1, x.2.1, x.2.2.2.2.2.2.1, ())
noncomputable def p_ref03_Sponge_l7_go : Go' ((Int × Int × List Int × Unit)) := fun y K => K (.exit 2) { tmps := [.one (.sc (.int .i64 y.1)), .one .any, .one .any, .one (.sc (.int .i64 y.2.1)), .one .any, .one .any, .one .any, .one .any, .one .any, .one .any, .one (.sc (.ptr 0 0 none)), .one .any, .one .any, .one .any, .one .any, .one .any, .one .any, .one .any, .one .any, .one .any, .one .any, .one .any, .one .any, .one .any, .one .any, .one .any, .one .any, .one .any, .one .any, .one .any, .one .any, .one .any, .one .any, .one .any, .one .any, .one .any, .one .any, .one .any, .one .any, .one .any, .one .any, .one .any, .one .any, .one .any, .one .any, .one .any, .one .any, .one .any, .one .any, .one .any, .one .any, .one .any, .one .any, .one .any, .one .any, .one .any, .one .any, .one .any, .one .any, .one .any, .one .any, .one .any, .one .any, .one .any, .one .any, .one .any, .one .any, .one .any, .one .any, .one .any, .one .any, .one .any, .one .any, .one .any, .one .any, .one .any, .one .any, .one .any, .one .any, .one .any, .one .any, .one .any, .one .any, .one .any, .one .any, .one .any, .one .any, .one .any], mem := [.live { segs := [.xs (.int .u64) 25 y.2.2.1], own := .own }] }
noncomputable def p_ref03_Sponge_l7_L (N : Nat) : LT := upd (p_ref03_Sponge_l10_L N) 7 (loopE p_ref03_Sponge_l7_S N (p_ref03_Sponge_l7_F N) p_ref03_Sponge_l7_go)
theorem p_ref03_Sponge_l7_ok (N : Nat) : OkAll p_ref03_Sponge_E p_ref03_Sponge_H N (p_ref03_Sponge_l7_L N) (subs p_ref03_Sponge_c) :=
  addLoop (c := theLoop 7 p_ref03_Sponge_c) (p_ref03_Sponge_l10_ok N) (by kernel_rfl) (fun x => by kernel_rfl) (fun β x kn ke => by kernel_rfl)
noncomputable def p_ref03_Sponge_l16_S : Shape where
  h := { tmps := [.sc (.int .i64), .any, .any, .sc (.int .i64), .any, .any, .any, .any, .any, .any, .sc (.ptr 0 0 false), .any, .any, .sc (.vec 1 none 1), .any, .any, .any, .any, .any, .any, .any, .any, .any, .any, .any, .any, .any, .any, .any, .any, .any, .any, .any, .any, .any, .any, .any, .any, .any, .any, .any, .any, .any, .any, .any, .any, .any, .any, .any, .any, .any, .any, .any, .any, .any, .any, .any, .any, .any, .any, .any, .any, .any, .any, .any, .any, .any, .any, .any, .any, .any, .any, .any, .any, .any, .any, .any, .any, .any, .any, .any, .any, .any, .any, .any, .any, .any, .any], mem := [.live [.xs (.int .u64) (some 25)] (.own), .live [.xs (.int .u8) none] (.own)] }
  ks := [.int, .int, .nat, .xs, .nat, .xs]
  st := fun x => { tmps := [.one (.sc (.int .i64 x.1)), .one .any, .one .any, .one (.sc (.int .i64 x.2.1)), .one .any, .one .any, .one .any, .one .any, .one .any, .one .any, .one (.sc (.ptr 0 0 none)), .one .any, .one .any, .one (.sc (.vec 1 x.2.2.1 1)), .one .any, .one .any, .one .any, .one .any, .one .any, .one .any, .one .any, .one .any, .one .any, .one .any, .one .any, .one .any, .one .any, .one .any, .one .any, .one .any, .one .any, .one .any, .one .any, .one .any, .one .any, .one .any, .one .any, .one .any, .one .any, .one .any, .one .any, .one .any, .one .any, .one .any, .one .any, .one .any, .one .any, .one .any, .one .any, .one .any, .one .any, .one .any, .one .any, .one .any, .one .any, .one .any, .one .any, .one .any, .one .any, .one .any, .one .any, .one .any, .one .any, .one .any, .one .any, .one .any, .one .any, .one .any, .one .any, .one .any, .one .any, .one .any, .one .any, .one .any, .one .any, .one .any, .one .any, .one .any, .one .any, .one .any, .one .any, .one .any, .one .any, .one .any, .one .any, .one .any, .one .any, .one .any], mem := [.live { segs := [.xs (.int .u64) 25 x.2.2.2.1], own := .own }, .live { segs := [.xs (.int .u8) x.2.2.2.2.1 x.2.2.2.2.2.1], own := .own }] }
noncomputable def p_ref03_Sponge_l16_F (N : Nat) (β : Type) (x : (Int × Int × Nat × List Int × Nat × List Int × Unit)) (kn : (Int × Int × Nat × List Int × Nat × List Int × Unit) → Option β) (ke : ((Nat × Nat × List Int × Unit)) → Option β) : Option β :=
  if (((x.2.2.1 : Nat) : Int) < x.2.1) then
    if (((x.2.2.1 : Nat) : Int) > (0:Int)) then
      (g_ref03_Permute (x.2.2.2.1, ())).bind fun r6 => (
      (g_ref03_bytes (r6, (if (IntKind.i64.wrap (x.2.1 - ((x.2.2.1 : Nat) : Int))) < x.1 then (IntKind.i64.wrap (x.2.1 - ((x.2.2.1 : Nat) : Int))) else x.1), ())).bind fun r7 => (
      if (x.2.2.1 + (List.length r7)) * 1 ≤ 140737488355328 then (
      kn (x.1, x.2.1, (x.2.2.1 + (List.length r7)), r6, (x.2.2.2.2.1 + (List.length r7)), (x.2.2.2.2.2.1 ++ r7), ())) else none))
    else
      (g_ref03_bytes (x.2.2.2.1, (if (IntKind.i64.wrap (x.2.1 - ((x.2.2.1 : Nat) : Int))) < x.1 then (IntKind.i64.wrap (x.2.1 - ((x.2.2.1 : Nat) : Int))) else x.1), ())).bind fun r8 => (
      if (x.2.2.1 + (List.length r8)) * 1 ≤ 140737488355328 then (
      kn (x.1, x.2.1, (x.2.2.1 + (List.length r8)), x.2.2.2.1, (x.2.2.2.2.1 + (List.length r8)), (x.2.2.2.2.2.1 ++ r8), ())) else none)
  else
    ke (x.2.2.1, x.2.2.2.2.1, x.2.2.2.2.2.1, ())
noncomputable def p_ref03_Sponge_l16_go : Go' ((Nat × Nat × List Int × Unit)) := fun y K => K (.exit 6) { tmps := [.one .any, .one .any, .one .any, .one .any, .one .any, .one .any, .one .any, .one .any, .one .any, .one .any, .one .any, .one .any, .one .any, .one (.sc (.vec 0 y.1 1)), .one .any, .one .any, .one .any, .one .any, .one .any, .one .any, .one .any, .one .any, .one .any, .one .any, .one .any, .one .any, .one .any, .one .any, .one .any, .one .any, .one .any, .one .any, .one .any, .one .any, .one .any, .one .any, .one .any, .one .any, .one .any, .one .any, .one .any, .one .any, .one .any, .one .any, .one .any, .one .any, .one .any, .one .any, .one .any, .one .any, .one .any, .one .any, .one .any, .one .any, .one .any, .one .any, .one .any, .one .any, .one .any, .one .any, .one .any, .one .any, .one .any, .one .any, .one .any, .one .any, .one .any, .one .any, .one .any, .one .any, .one .any, .one .any, .one .any, .one .any, .one .any, .one .any, .one .any, .one .any, .one .any, .one .any, .one .any, .one .any, .one .any, .one .any, .one .any, .one .any, .one .any, .one .any], mem := [.live { segs := [.xs (.int .u8) y.2.1 y.2.2.1], own := .own }] }
noncomputable def p_ref03_Sponge_l16_L (N : Nat) : LT := upd (p_ref03_Sponge_l7_L N) 16 (loopE p_ref03_Sponge_l16_S N (p_ref03_Sponge_l16_F N) p_ref03_Sponge_l16_go)
theorem p_ref03_Sponge_l16_ok (N : Nat) : OkAll p_ref03_Sponge_E p_ref03_Sponge_H N (p_ref03_Sponge_l16_L N) (subs p_ref03_Sponge_c) :=
  addLoop (c := theLoop 16 p_ref03_Sponge_c) (p_ref03_Sponge_l7_ok N) (by kernel_rfl) (fun x => by kernel_rfl) (fun β x kn ke => by kernel_rfl)
abbrev p_ref03_Sponge_ks : List Kd := [.int .i64, .int .u8, .sl (.int .u8), .int .i64]
abbrev p_ref03_Sponge_rs : List Kd := [.sl (.int .u8)]
noncomputable def p_ref03_Sponge (N : Nat) (x : Int × Int × List Int × Int × Unit) : Option (List Int) :=
  (g_ref01_Join ([x.2.2.1, (List.set (List.replicate 1 0) 0 x.2.1)], ())).bind fun r1 => (
  iter (p_ref03_Sponge_l2_F N) N (x.1, x.2.2.2.1, (List.length r1), (List.length r1), r1, ()) fun y2 => (
  if 0 ≤ (IntKind.i64.wrap (((y2.2.2.1 : Nat) : Int) - (1:Int))) then (
  if (IntKind.i64.wrap (((y2.2.2.1 : Nat) : Int) - (1:Int))) < ((y2.2.2.1 : Nat) : Int) then (
  if ((IntKind.i64.wrap (((y2.2.2.1 : Nat) : Int) - (1:Int))).toNat) < y2.2.2.2.1 then (
  if 0 ≤ (IntKind.i64.wrap (((y2.2.2.1 : Nat) : Int) - (1:Int))) then (
  if (IntKind.i64.wrap (((y2.2.2.1 : Nat) : Int) - (1:Int))) < ((y2.2.2.1 : Nat) : Int) then (
  if ((IntKind.i64.wrap (((y2.2.2.1 : Nat) : Int) - (1:Int))).toNat) < y2.2.2.2.1 then (
  iter (p_ref03_Sponge_l7_F N) N (y2.1, y2.2.1, y2.2.2.1, (0:Int), y2.2.2.2.1, (List.set y2.2.2.2.2.1 ((IntKind.i64.wrap (((y2.2.2.1 : Nat) : Int) - (1:Int))).toNat) (ixor IntKind.u8 (List.getD y2.2.2.2.2.1 ((IntKind.i64.wrap (((y2.2.2.1 : Nat) : Int) - (1:Int))).toNat) 0) (128:Int))), (List.replicate 25 0), ()) fun y5 => (
  iter (p_ref03_Sponge_l16_F N) N (y5.1, y5.2.1, 0, y5.2.2.1, 0, (List.replicate 0 0), ()) fun y9 => (
  some y9.2.2.1))) else none) else none) else none) else none) else none) else none))
theorem p_ref03_Sponge_eq (N : Nat) (x : Ds [.int .i64, .int .u8, .sl (.int .u8), .int .i64]) : funL p_ref03_Sponge_E p_ref03_Sponge_H (p_ref03_Sponge_l16_L N) N Go.Proofs.Try.f86 p_ref03_Sponge_c [.int .i64, .int .u8, .sl (.int .u8), .int .i64] [.sl (.int .u8)] x = p_ref03_Sponge N x := by kernel_rfl
theorem p_ref03_Sponge_Eok (he_ref01_Join : SigOk Go.Proofs.Try.prog 90 ⟨[.sls (.int .u8)], [.sl (.int .u8)], g_ref01_Join⟩) (he_ref03_Permute : SigOk Go.Proofs.Try.prog 91 ⟨[.xs (.int .u64) 25], [.xs (.int .u64) 25], g_ref03_Permute⟩) (he_ref03_bytes : SigOk Go.Proofs.Try.prog 92 ⟨[.xs (.int .u64) 25, .int .i64], [.sl (.int .u8)], g_ref03_bytes⟩) : p_ref03_Sponge_E.Ok Go.Proofs.Try.prog := AE.of_ok (all_cons ty3_ok (all_cons ty5_ok (all_cons ty39_ok (all_cons ty51_ok (all_cons ty80_ok (all_cons ty83_ok (all_cons ty84_ok all_nil))))))) (all_cons ⟨he_ref01_Join, enters_ref01_Join⟩ (all_cons ⟨he_ref03_Permute, enters_ref03_Permute⟩ (all_cons ⟨he_ref03_bytes, enters_ref03_bytes⟩ all_nil)))
theorem p_ref03_Sponge_ok (he_ref01_Join : SigOk Go.Proofs.Try.prog 90 ⟨[.sls (.int .u8)], [.sl (.int .u8)], g_ref01_Join⟩) (he_ref03_Permute : SigOk Go.Proofs.Try.prog 91 ⟨[.xs (.int .u64) 25], [.xs (.int .u64) 25], g_ref03_Permute⟩) (he_ref03_bytes : SigOk Go.Proofs.Try.prog 92 ⟨[.xs (.int .u64) 25, .int .i64], [.sl (.int .u8)], g_ref03_bytes⟩) {g : Ds [.int .i64, .int .u8, .sl (.int .u8), .int .i64] → Option (Rs [.sl (.int .u8)])} (hg : ∀ x r, g x = some r → ∃ N, p_ref03_Sponge N x = some r) : SigOk Go.Proofs.Try.prog 86 ⟨[.int .i64, .int .u8, .sl (.int .u8), .int .i64], [.sl (.int .u8)], g⟩ :=
  fun_of (E := p_ref03_Sponge_E) (H := p_ref03_Sponge_H) (L := fun N => p_ref03_Sponge_l16_L N) (c := p_ref03_Sponge_c) (ks := p_ref03_Sponge_ks) (rs := p_ref03_Sponge_rs) (F := p_ref03_Sponge) (p_ref03_Sponge_Eok he_ref01_Join he_ref03_Permute he_ref03_bytes) mix Go.Proofs.Try.func86 (by kernel_rfl) (fun N => p_ref03_Sponge_l16_ok N) p_ref03_Sponge_eq hg

/-! livery/liveryref03.Shake -/
noncomputable def p_ref03_Shake_E : AE := AE.of [] [(86, ⟨[.int .i64, .int .u8, .sl (.int .u8), .int .i64], [.sl (.int .u8)], g_ref03_Sponge⟩)]
noncomputable def p_ref03_Shake_H : Hints := [(3000000, [6])]
noncomputable def p_ref03_Shake_c : Code := (Go.Proofs.Try.f74).body.getD .skip
abbrev p_ref03_Shake_ks : List Kd := [.int .i64, .int .i64, .sl (.int .u8)]
abbrev p_ref03_Shake_rs : List Kd := [.sl (.int .u8)]
noncomputable def p_ref03_Shake (N : Nat) (x : Int × Int × List Int × Unit) : Option (List Int) :=
  if (x.1 = (128:Int)) then
    (g_ref03_Sponge ((168:Int), (31:Int), x.2.2.1, x.2.1, ())).bind fun r1 => (
    some r1)
  else
    (g_ref03_Sponge ((136:Int), (31:Int), x.2.2.1, x.2.1, ())).bind fun r2 => (
    some r2)
theorem p_ref03_Shake_eq (N : Nat) (x : Ds [.int .i64, .int .i64, .sl (.int .u8)]) : funL p_ref03_Shake_E p_ref03_Shake_H (LT.nil) N Go.Proofs.Try.f74 p_ref03_Shake_c [.int .i64, .int .i64, .sl (.int .u8)] [.sl (.int .u8)] x = p_ref03_Shake N x := by kernel_rfl
theorem p_ref03_Shake_Eok (he_ref03_Sponge : SigOk Go.Proofs.Try.prog 86 ⟨[.int .i64, .int .u8, .sl (.int .u8), .int .i64], [.sl (.int .u8)], g_ref03_Sponge⟩) : p_ref03_Shake_E.Ok Go.Proofs.Try.prog := AE.of_ok all_nil (all_cons ⟨he_ref03_Sponge, enters_ref03_Sponge⟩ all_nil)
theorem p_ref03_Shake_ok (he_ref03_Sponge : SigOk Go.Proofs.Try.prog 86 ⟨[.int .i64, .int .u8, .sl (.int .u8), .int .i64], [.sl (.int .u8)], g_ref03_Sponge⟩) {g : Ds [.int .i64, .int .i64, .sl (.int .u8)] → Option (Rs [.sl (.int .u8)])} (hg : ∀ x r, g x = some r → ∃ N, p_ref03_Shake N x = some r) : SigOk Go.Proofs.Try.prog 74 ⟨[.int .i64, .int .i64, .sl (.int .u8)], [.sl (.int .u8)], g⟩ :=
  fun_of (E := p_ref03_Shake_E) (H := p_ref03_Shake_H) (L := fun N => LT.nil) (c := p_ref03_Shake_c) (ks := p_ref03_Shake_ks) (rs := p_ref03_Shake_rs) (F := p_ref03_Shake) (p_ref03_Shake_Eok he_ref03_Sponge) mix Go.Proofs.Try.func74 (by kernel_rfl) (fun N => OkAll.nil) p_ref03_Shake_eq hg
end Go.Ax.TryP
/-! ### The sponge: small functions -/
set_option linter.unusedVariables false
namespace Go.Ax.TryP
theorem q_keccak_may : ∀ x r, g_keccak_may x = some r → ∃ N, p_keccak_may N x = some r := by
  refine Spec_of (ks := p_keccak_may_ks) (rs := p_keccak_may_rs) fun x hw hq => ⟨0, ?_⟩
  obtain ⟨(n : Int), u⟩ := x
  unfold p_keccak_may fMay
  dsimp only
  split
  · rfl
  · split
    · rfl
    · rfl
theorem q_keccak_Xof_none : ∀ x r, g_keccak_Xof_none x = some r → ∃ N, p_keccak_Xof_none N x = some r := by
  refine Spec_of (ks := p_keccak_Xof_none_ks) (rs := p_keccak_Xof_none_rs) fun x hw hq => ⟨0, ?_⟩
  obtain ⟨⟨(b : Bool), a, r, p, c, u⟩, v⟩ := x
  cases b <;> rfl
theorem tdiv8 {p : Nat} : Int.tdiv (p : Int) 8 = ((p / 8 : Nat) : Int) := by rw [tdiv_pos (by omega)]; omega
theorem tmod8 {p : Nat} : Int.tmod (p : Int) 8 = ((p % 8 : Nat) : Int) := by rw [tmod_pos (by omega)]; omega
theorem q_keccak_sponge_put : ∀ x r, g_keccak_sponge_put x = some r → ∃ N, p_keccak_sponge_put N x = some r := by
  refine Spec_of (ks := p_keccak_sponge_put_ks) (rs := p_keccak_sponge_put_rs) fun x hw hq => ⟨0, ?_⟩
  obtain ⟨⟨(a : List Int), (r : Int), (p : Int), u⟩, (z : Int), v⟩ := x
  have hq : 0 ≤ p ∧ p < 200 := hq
  have hz : 0 ≤ z ∧ z ≤ 255 := okInt_u8.1 hw.2.1
  obtain ⟨m, rfl⟩ : ∃ m : Nat, p = m := ⟨p.toNat, by omega⟩
  unfold p_keccak_sponge_put
  dsimp only
  rw [tdiv8, tmod8, wrap_i64 (by omega) (by omega), wrap_i64 (by omega) (by omega), wrap_u64 (by omega) (by omega), Int.toNat_natCast, if_pos (by omega), if_pos (by omega), if_pos (by omega), if_neg (by omega), if_pos (by omega), if_pos (by omega), if_pos (by omega)]
  rfl
theorem q_ref03_bytes : ∀ x r, g_ref03_bytes x = some r → ∃ N, p_ref03_bytes N x = some r := by
  refine Spec_of (ks := p_ref03_bytes_ks) (rs := p_ref03_bytes_rs) fun x hw hq => ⟨201, ?_⟩
  obtain ⟨(a : List Int), (n : Int), u⟩ := x
  have hq : 0 ≤ n ∧ n ≤ 200 := hq
  obtain ⟨m, rfl⟩ : ∃ m : Nat, n = m := ⟨n.toNat, by omega⟩
  unfold p_ref03_bytes
  refine (iter_from (F := p_ref03_bytes_l3_F 201) (s := fun i => (i, (m : Int), (i : Int), a, i, (List.range i).map (byteOf a), ())) (y := (m, m, (List.range m).map (byteOf a), ())) m rfl ?_ ?_ 201 (by omega)).trans ?_
  · intro i hi kn
    unfold p_ref03_bytes_l3_F
    dsimp only
    rw [if_pos (by omega), tdiv8, tmod8, wrap_i64 (by omega) (by omega), wrap_i64 (by omega) (by omega), wrap_u64 (by omega) (by omega), wrap_i64 (by omega) (by omega), Int.toNat_natCast, if_pos (by omega), if_pos (by omega), if_pos (by omega), if_neg (by omega), if_pos (by omega)]
    rw [List.range_succ, List.map_append]
    rfl
  · intro kn
    unfold p_ref03_bytes_l3_F
    dsimp only
    rw [if_neg (by omega)]
  · rfl
end Go.Ax.TryP
/-! ### The sponge: bytes come out -/
set_option linter.unusedVariables false
namespace Go.Ax.TryP
theorem wf_sp {a : List Int} {r p : Int} : csWf [.xs (.int .u64) 25, .int .i64, .int .i64] (a, r, p, ()) ↔ u64s 25 a ∧ (-9223372036854775808 ≤ r ∧ r ≤ 9223372036854775807) ∧ (-9223372036854775808 ≤ p ∧ p ≤ 9223372036854775807) := by
  have h1 : FK.wf (.xs (.int .u64) 25) a ↔ u64s 25 a := by simp [FK.wf, u64s, rows, okInt_u64]
  have h2 : FK.wf (.int .i64) r ↔ _ := okInt_i64
  have h3 : FK.wf (.int .i64) p ↔ _ := okInt_i64
  simp only [csWf, h1, h2, h3, and_true]
theorem perms_u {a : List Int} (h : u64s 25 a) : ∀ n : Nat, u64s 25 (perms n a)
  | 0 => h
  | n + 1 => permS_u (perms_u h n)
theorem perms_succ (n : Nat) (a : List Int) : permS (perms n a) = perms (n + 1) a := rfl
/-- The next byte from a state that waits at p. -/
theorem stOf_full {rate : Nat} (hr : 0 < rate) (a : List Int) {p : Nat} (h : (stOf rate a p).2 = rate) : p / rate = (p - 1) / rate + 1 ∧ p % rate = 0 := by
  unfold stOf at h
  dsimp only at h
  have e := Nat.div_add_mod (p - 1) rate
  have e1 := Nat.mod_lt (p - 1) hr
  generalize hq : (p - 1) / rate = q at *
  rw [Nat.mul_comm] at e
  have hp : p = (q + 1) * rate := by rw [Nat.add_mul, Nat.one_mul]; omega
  rw [hp]
  exact ⟨Nat.mul_div_cancel _ hr, Nat.mul_mod_left _ _⟩
theorem stOf_part {rate : Nat} (hr : 0 < rate) (a : List Int) {p : Nat} (h : (stOf rate a p).2 ≠ rate) : p / rate = (p - 1) / rate ∧ p % rate = (stOf rate a p).2 ∧ (stOf rate a p).2 < rate := by
  unfold stOf at *
  dsimp only at *
  have e := Nat.div_add_mod (p - 1) rate
  have e1 := Nat.mod_lt (p - 1) hr
  generalize hq : (p - 1) / rate = q at *
  rw [Nat.mul_comm] at e
  have h1 : q * rate ≤ p := by omega
  have h2 : p - q * rate < rate := by omega
  have hp : p = (p - q * rate) + rate * q := by rw [Nat.mul_comm rate]; omega
  refine ⟨?_, ?_, h2⟩
  · rw [hp, Nat.add_mul_div_left _ _ hr, Nat.div_eq_of_lt h2]; omega
  · conv => lhs; rw [hp, Nat.add_mul_mod_self_left]
    exact Nat.mod_eq_of_lt h2
theorem stOf_next {rate : Nat} (hr : 0 < rate) (a : List Int) (p : Nat) : stOf rate a (p + 1) = (perms (p / rate) a, p % rate + 1) := by
  unfold stOf
  have e := Nat.div_add_mod p rate
  rw [Nat.mul_comm] at e
  rw [Nat.add_sub_cancel]
  congr 1
  omega
end Go.Ax.TryP
/-! ### The sponge: bytes come out, the loop -/
set_option linter.unusedVariables false
namespace Go.Ax.TryP
theorem stOf_small {rate : Nat} (a : List Int) {p : Nat} (hr : 0 < rate) (hp : p ≤ rate) : stOf rate a p = (a, p) := by
  unfold stOf
  rw [Nat.div_eq_of_lt (by omega)]
  simp [perms]
theorem gives_step {rate n : Nat} {a out : List Int} {p i : Nat} (ha : u64s 25 a) (hr : 8 ≤ rate ∧ rate ≤ 200) (hn : out.length = n) (hb : n ≤ maxLen) (hi : i < n) {β : Type} (N : Nat) (kn : _ → Option β) (k : _ → Option β) :
    p_keccak_sponge_gives_l1_F N β (n, (n : Int), (i : Int), (stOf rate a (p + i)).1, (rate : Int), ((stOf rate a (p + i)).2 : Int), n, part (fun k => outB rate a (p + k)) i out, ()) kn k
    = kn (n, (n : Int), ((i + 1 : Nat) : Int), (stOf rate a (p + (i + 1))).1, (rate : Int), ((stOf rate a (p + (i + 1))).2 : Int), n, part (fun k => outB rate a (p + k)) (i + 1) out, ()) := by
  have hm : maxLen ≤ 9223372036854775807 := by decide
  have h0 : 0 < rate := by omega
  have hu : u64s 25 (perms ((p + i - 1) / rate) a) := perms_u ha _
  have hnext := stOf_next h0 a (p + i)
  have hset : (part (fun k => outB rate a (p + k)) i out).set i (outB rate a (p + i)) = part (fun k => outB rate a (p + k)) (i + 1) out := part_set (h := fun k => outB rate a (p + k)) (by omega)
  unfold p_keccak_sponge_gives_l1_F
  dsimp only
  rw [if_pos (by omega)]
  by_cases h : (stOf rate a (p + i)).2 = rate
  · obtain ⟨h1, h2⟩ := stOf_full h0 a h
    rw [if_pos (by omega)]
    have e : g_keccak_Permute ((stOf rate a (p + i)).1, ()) = some (perms ((p + i) / rate) a) := by
      rw [h1]; exact at_perm hu
    rw [e, Option.bind_some]
    have c1 : IntKind.i64.wrap (Int.tdiv 0 8) = 0 := by decide
    have c2 : IntKind.i64.wrap (8 * Int.tmod 0 8) = 0 := by decide
    rw [c1, c2, if_pos (by omega), if_pos (by omega), if_pos (by decide), if_neg (by omega), if_pos (by omega), if_pos (by omega), if_pos (by omega), Int.toNat_natCast, wrap_i64 (by omega) (by omega)]
    rw [show p + (i + 1) = p + i + 1 by omega, hnext, h2]
    have c3 : IntKind.u8.wrap (ishr IntKind.u64 (List.getD (perms ((p + i) / rate) a) (Int.toNat 0) 0) 0) = outB rate a (p + i) := by
      unfold outB; rw [h2]; rfl
    rw [c3, hset]
    rfl
  · obtain ⟨h1, h2, h3⟩ := stOf_part h0 a h
    rw [if_neg (by omega)]
    have e : (stOf rate a (p + i)).1 = perms ((p + i) / rate) a := by rw [h1]; rfl
    rw [e, ← h2, tdiv8, tmod8, wrap_i64 (by omega) (by omega), wrap_i64 (x := 8 * (((p + i) % rate % 8 : Nat) : Int)) (by omega) (by omega), Int.toNat_natCast, if_pos (by omega), if_pos (by omega), if_pos (by omega), if_neg (by omega), if_pos (by omega), if_pos (by omega), if_pos (by omega), Int.toNat_natCast, wrap_i64 (by omega) (by omega), wrap_i64 (by omega) (by omega)]
    rw [show p + (i + 1) = p + i + 1 by omega, hnext]
    have c3 : IntKind.u8.wrap (ishr IntKind.u64 (List.getD (perms ((p + i) / rate) a) ((p + i) % rate / 8) 0) (8 * (((p + i) % rate % 8 : Nat) : Int))) = outB rate a (p + i) := rfl
    rw [c3, hset]
    rfl
theorem q_keccak_sponge_gives : ∀ x r, g_keccak_sponge_gives x = some r → ∃ N, p_keccak_sponge_gives N x = some r := by
  refine Spec_of (ks := p_keccak_sponge_gives_ks) (rs := p_keccak_sponge_gives_rs) fun x hw hq => ?_
  obtain ⟨⟨(a : List Int), (r : Int), (p : Int), u⟩, (out : List Int), v⟩ := x
  obtain ⟨ha, _, _⟩ := wf_sp.1 hw.1
  have hl : out.length ≤ maxLen := hw.2.1.1
  obtain ⟨hr, hp0, hp1⟩ : (8 ≤ r ∧ r ≤ 200) ∧ 0 ≤ p ∧ p ≤ r := hq
  obtain ⟨rate, rfl⟩ : ∃ m : Nat, r = m := ⟨r.toNat, by omega⟩
  obtain ⟨q, rfl⟩ : ∃ m : Nat, p = m := ⟨p.toNat, by omega⟩
  generalize hn : out.length = n at *
  refine ⟨n + 1, ?_⟩
  unfold p_keccak_sponge_gives
  dsimp only
  rw [hn]
  refine (iter_from (F := p_keccak_sponge_gives_l1_F (n + 1)) (s := fun i => (n, (n : Int), (i : Int), (stOf rate a (q + i)).1, (rate : Int), ((stOf rate a (q + i)).2 : Int), n, part (fun k => outB rate a (q + k)) i out, ()))
    (y := ((stOf rate a (q + n)).1, (rate : Int), ((stOf rate a (q + n)).2 : Int), n, (List.range n).map (fun k => outB rate a (q + k)), ())) n ?_ ?_ ?_ (n + 1) (by omega)).trans ?_
  · rw [Nat.add_zero, stOf_small a (by omega) (by omega), part_zero]
    rfl
  · exact fun i hi kn => gives_step ha (by omega) hn hl hi _ kn _
  · intro kn
    unfold p_keccak_sponge_gives_l1_F
    dsimp only
    rw [if_neg (by omega), part_all hn]
  · dsimp only
    rw [Int.toNat_natCast, Int.toNat_natCast]
end Go.Ax.TryP
/-! ### The sponge: texts go in -/
set_option linter.unusedVariables false
namespace Go.Ax.TryP
theorem putS_u {a : List Int} (h : u64s 25 a) (p : Nat) (x : Int) : u64s 25 (putS a p x) := rows.set h (x64_b _ _)
def okSp (rate : Nat) (s : List Int × Nat) : Prop := u64s 25 s.1 ∧ s.2 < rate
theorem stepT_ok {rate : Nat} {s : List Int × Nat} (h : okSp rate s) (x : Int) : okSp rate (stepT rate s x) := by
  have h1 := h.2
  unfold stepT
  split
  · exact ⟨permS_u (putS_u h.1 _ _), by show 0 < rate; omega⟩
  · exact ⟨putS_u h.1 _ _, by show s.2 + 1 < rate; omega⟩
theorem feed_ok {rate : Nat} : ∀ {s : List Int × Nat} (l : List Int), okSp rate s → okSp rate (feed rate s l)
  | s, [], h => h
  | s, x :: l, h => feed_ok l (stepT_ok h x)
theorem feed_append (rate : Nat) (s : List Int × Nat) (l m : List Int) : feed rate s (l ++ m) = feed rate (feed rate s l) m := by simp [feed, List.foldl_append]
theorem feed_one (rate : Nat) (s : List Int × Nat) (x : Int) : feed rate s [x] = stepT rate s x := rfl
theorem at_put {a : List Int} {r : Int} {p : Nat} {x : Int} (h : u64s 25 a) (hr : okRate r) (hp : p < 200) (hx : 0 ≤ x ∧ x ≤ 255) : g_keccak_sponge_put ((a, r, (p : Int), ()), x, ()) = some (putS a p x, r, (p : Int), ()) := by
  have hr' : 8 ≤ r ∧ r ≤ 200 := hr
  have := Spec_at (ks := p_keccak_sponge_put_ks) (rs := p_keccak_sponge_put_rs) (x := ((a, r, (p : Int), ()), x, ())) (Q := fun x => 0 ≤ x.1.2.2.1 ∧ x.1.2.2.1 < 200) (f := fun x => (putS x.1.1 x.1.2.2.1.toNat x.2.1, x.1.2.1, x.1.2.2.1, ()))
    ⟨wf_sp.2 ⟨h, by omega, by omega⟩, okInt_u8.2 hx, trivial⟩ ⟨by show (0 : Int) ≤ p; omega, by show (p : Int) < 200; omega⟩
  exact this
theorem take_step {rate : Nat} {e np i : Int} {parts : List (List Int)} {l : List Int} {s : List Int × Nat} {j : Nat} (hs : okSp rate s) (hr : 8 ≤ rate ∧ rate ≤ 200) (hl : ∀ z ∈ l, 0 ≤ z ∧ z ≤ 255) (hm : l.length ≤ maxLen) (hj : j < l.length)
    {β : Type} (N : Nat) (kn : _ → Option β) (k : _ → Option β) :
    p_keccak_sponge_takes_l4_F N β (e, parts, np, i, l, (l.length : Int), (j : Int), (feed rate s (l.take j)).1, (rate : Int), ((feed rate s (l.take j)).2 : Int), ()) kn k
    = kn (e, parts, np, i, l, (l.length : Int), ((j + 1 : Nat) : Int), (feed rate s (l.take (j + 1))).1, (rate : Int), ((feed rate s (l.take (j + 1))).2 : Int), ()) := by
  have hm' : maxLen ≤ 9223372036854775807 := by decide
  have hS := feed_ok (l.take j) hs
  have e1 : feed rate s (l.take (j + 1)) = stepT rate (feed rate s (l.take j)) (l.getD j 0) := by
    rw [List.take_succ_eq_append_getElem hj, feed_append, feed_one, List.getD_eq_getElem?_getD, List.getElem?_eq_getElem hj]; rfl
  have hz := hl _ (getD_mem hj)
  generalize feed rate s (l.take j) = S at *
  have h2 := hS.2
  unfold p_keccak_sponge_takes_l4_F
  dsimp only
  rw [if_pos (by omega), if_pos (by omega), if_pos (by omega), Int.toNat_natCast, at_put hS.1 ⟨by omega, by omega⟩ (by omega) hz, Option.bind_some]
  dsimp only
  rw [e1, wrap_i64 (x := (S.2 : Int) + 1) (by omega) (by omega), wrap_i64 (by omega) (by omega)]
  unfold stepT
  by_cases h : S.2 + 1 = rate
  · rw [if_pos (by omega), at_perm (putS_u hS.1 _ _), Option.bind_some, if_pos h]
    rfl
  · rw [if_neg (by omega), if_neg h]
    rfl
theorem takes_all {rate : Nat} {e np i : Int} {parts : List (List Int)} {l : List Int} {s : List Int × Nat} (hs : okSp rate s) (hr : 8 ≤ rate ∧ rate ≤ 200) (hl : ∀ z ∈ l, 0 ≤ z ∧ z ≤ 255) (hm : l.length ≤ maxLen)
    {β : Type} {N : Nat} (hN : l.length < N) {k : _ → Option β} :
    iter (p_keccak_sponge_takes_l4_F N) N (e, parts, np, i, l, (l.length : Int), (0 : Int), s.1, (rate : Int), (s.2 : Int), ()) k = k (e, parts, np, i, (feed rate s l).1, (rate : Int), ((feed rate s l).2 : Int), ()) := by
  refine iter_from (F := p_keccak_sponge_takes_l4_F N) (s := fun j => (e, parts, np, i, l, (l.length : Int), (j : Int), (feed rate s (l.take j)).1, (rate : Int), ((feed rate s (l.take j)).2 : Int), ()))
    (y := (e, parts, np, i, (feed rate s l).1, (rate : Int), ((feed rate s l).2 : Int), ())) l.length ?_ ?_ ?_ N hN
  · rfl
  · exact fun j hj kn => take_step hs hr hl hm hj N kn k
  · intro kn
    unfold p_keccak_sponge_takes_l4_F
    dsimp only
    rw [if_neg (by omega), List.take_length]
end Go.Ax.TryP
/-! ### The sponge: texts go in, all of them -/
set_option linter.unusedVariables false
namespace Go.Ax.TryP
def partsOk (l : List (List Int)) : Prop := l.length ≤ maxLen ∧ ∀ zs ∈ l, zs.length ≤ maxLen ∧ ∀ z ∈ zs, 0 ≤ z ∧ z ≤ 255
theorem wf_parts {l : List (List Int)} : Kd.wf (.sls (.int .u8)) l ↔ partsOk l := by simp [Kd.wf, partsOk, okInt_u8]
theorem mem_len {zs : List Int} : ∀ {l : List (List Int)}, zs ∈ l → zs.length ≤ l.flatten.length
  | x :: l, h => by
    rcases List.mem_cons.1 h with rfl | h
    · simp
    · have := mem_len h; simp only [List.flatten_cons, List.length_append]; omega
theorem parts_step {rate : Nat} {e : Int} {parts : List (List Int)} {s : List Int × Nat} {i : Nat} (hs : okSp rate s) (hr : 8 ≤ rate ∧ rate ≤ 200) (hp : partsOk parts) (hi : i < parts.length)
    {β : Type} {N : Nat} (hN : parts.flatten.length < N) (kn : _ → Option β) (k : _ → Option β) :
    p_keccak_sponge_takes_l1_F N β (e, parts, (parts.length : Int), (i : Int), (feed rate s (parts.take i).flatten).1, (rate : Int), ((feed rate s (parts.take i).flatten).2 : Int), ()) kn k
    = kn (e, parts, (parts.length : Int), ((i + 1 : Nat) : Int), (feed rate s (parts.take (i + 1)).flatten).1, (rate : Int), ((feed rate s (parts.take (i + 1)).flatten).2 : Int), ()) := by
  have hm' : maxLen ≤ 9223372036854775807 := by decide
  have hl := hp.1
  have hS := feed_ok (parts.take i).flatten hs
  have hmem : parts.getD i [] ∈ parts := by
    rw [List.getD_eq_getElem?_getD, List.getElem?_eq_getElem hi]; simp
  have e1 : feed rate s (parts.take (i + 1)).flatten = feed rate (feed rate s (parts.take i).flatten) (parts.getD i []) := by
    rw [List.take_succ_eq_append_getElem hi, List.flatten_append, feed_append, List.getD_eq_getElem?_getD, List.getElem?_eq_getElem hi]
    simp
  have hlen := mem_len hmem
  obtain ⟨q1, q2⟩ := hp.2 _ hmem
  rw [e1]
  generalize feed rate s (parts.take i).flatten = S at *
  unfold p_keccak_sponge_takes_l1_F
  dsimp only
  rw [if_pos (by omega), if_pos (by omega), if_pos (by omega), Int.toNat_natCast]
  rw [takes_all hS hr q2 q1 (by omega)]
  dsimp only
  rw [wrap_i64 (by omega) (by omega)]
  rfl
theorem q_keccak_sponge_takes : ∀ x r, g_keccak_sponge_takes x = some r → ∃ N, p_keccak_sponge_takes N x = some r := by
  refine Spec_of (ks := p_keccak_sponge_takes_ks) (rs := p_keccak_sponge_takes_rs) fun x hw hq => ?_
  obtain ⟨⟨(a : List Int), (r : Int), (p : Int), u⟩, (e : Int), (parts : List (List Int)), v⟩ := x
  obtain ⟨ha, _, _⟩ := wf_sp.1 hw.1
  have he : 0 ≤ e ∧ e ≤ 255 := okInt_u8.1 hw.2.1
  have hp : partsOk parts := wf_parts.1 hw.2.2.1
  obtain ⟨hr, hp0, hp1⟩ : (8 ≤ r ∧ r ≤ 200) ∧ 0 ≤ p ∧ p < r := hq
  obtain ⟨rate, rfl⟩ : ∃ m : Nat, r = m := ⟨r.toNat, by omega⟩
  obtain ⟨q, rfl⟩ : ∃ m : Nat, p = m := ⟨p.toNat, by omega⟩
  have hs : okSp rate (a, q) := ⟨ha, by show q < rate; omega⟩
  have hr' : 8 ≤ rate ∧ rate ≤ 200 := by omega
  refine ⟨parts.length + parts.flatten.length + 1, ?_⟩
  unfold p_keccak_sponge_takes
  dsimp only
  refine (iter_from (F := p_keccak_sponge_takes_l1_F (parts.length + parts.flatten.length + 1)) (s := fun i => (e, parts, (parts.length : Int), (i : Int), (feed rate (a, q) (parts.take i).flatten).1, (rate : Int), ((feed rate (a, q) (parts.take i).flatten).2 : Int), ()))
    (y := (e, (feed rate (a, q) parts.flatten).1, (rate : Int), ((feed rate (a, q) parts.flatten).2 : Int), ())) parts.length ?_ ?_ ?_ _ (by omega)).trans ?_
  · rfl
  · exact fun i hi kn => parts_step hs hr' hp hi (by omega) kn _
  · intro kn
    unfold p_keccak_sponge_takes_l1_F
    dsimp only
    rw [if_neg (by omega), List.take_length]
  · have hS := feed_ok parts.flatten hs
    dsimp only
    rw [Int.toNat_natCast, Int.toNat_natCast]
    unfold absorb
    generalize feed rate (a, q) parts.flatten = S at *
    have h2 := hS.2
    rw [at_put hS.1 ⟨by omega, by omega⟩ (by omega) he, Option.bind_some]
    dsimp only
    rw [wrap_i64 (by omega) (by omega), show (rate : Int) - 1 = ((rate - 1 : Nat) : Int) by omega, at_put (putS_u hS.1 _ _) ⟨by omega, by omega⟩ (by omega) (by omega), Option.bind_some]
    dsimp only
    rw [at_perm (putS_u (putS_u hS.1 _ _) _ _), Option.bind_some]
end Go.Ax.TryP
/-! ### Outputs: started, and read -/
set_option linter.unusedVariables false
namespace Go.Ax.TryP
theorem z25_u : u64s 25 z25 := rows.zero (by omega) 25
theorem absorb_u {rate : Nat} {s : List Int × Nat} (hs : okSp rate s) (e : Int) (l : List Int) : u64s 25 (absorb rate e s l) := permS_u (putS_u (putS_u (feed_ok l hs).1 _ _) _ _)
theorem at_takes {a : List Int} {rate p : Nat} {e : Int} {parts : List (List Int)} (ha : u64s 25 a) (hr : 8 ≤ rate ∧ rate ≤ 200) (hp : p < rate) (he : 0 ≤ e ∧ e ≤ 255) (hl : partsOk parts) :
    g_keccak_sponge_takes ((a, (rate : Int), (p : Int), ()), e, parts, ()) = some (absorb rate e (a, p) parts.flatten, (rate : Int), 0, ()) := by
  have := Spec_at (ks := p_keccak_sponge_takes_ks) (rs := p_keccak_sponge_takes_rs) (x := ((a, (rate : Int), (p : Int), ()), e, parts, ())) (Q := fun x => okRate x.1.2.1 ∧ 0 ≤ x.1.2.2.1 ∧ x.1.2.2.1 < x.1.2.1) (f := fun x => (absorb x.1.2.1.toNat x.2.1 (x.1.1, x.1.2.2.1.toNat) x.2.2.1.flatten, x.1.2.1, 0, ()))
    ⟨wf_sp.2 ⟨ha, by omega, by omega⟩, okInt_u8.2 he, wf_parts.2 hl, trivial⟩ ⟨⟨by show (8 : Int) ≤ rate; omega, by show (rate : Int) ≤ 200; omega⟩, by show (0 : Int) ≤ p; omega, by show (p : Int) < rate; omega⟩
  exact this
theorem q_keccak_started : ∀ x r, g_keccak_started x = some r → ∃ N, p_keccak_started N x = some r := by
  refine Spec_of (ks := p_keccak_started_ks) (rs := p_keccak_started_rs) fun x hw hq => ⟨0, ?_⟩
  obtain ⟨(r : Int), (parts : List (List Int)), u⟩ := x
  have hp : partsOk parts := wf_parts.1 hw.2.1
  have hr : 8 ≤ r ∧ r ≤ 200 := hq
  obtain ⟨rate, rfl⟩ : ∃ m : Nat, r = m := ⟨r.toNat, by omega⟩
  have e := at_takes (e := 31) (p := 0) z25_u (by omega) (show 0 < rate by omega) (by omega) hp
  unfold p_keccak_started
  refine (congrArg (fun o => Option.bind o _) e).trans ?_
  rw [Option.bind_some]
  rfl
theorem at_started {rate : Nat} {parts : List (List Int)} (hr : 8 ≤ rate ∧ rate ≤ 200) (hl : partsOk parts) : g_keccak_started ((rate : Int), parts, ()) = some (true, absorb rate 31 (z25, 0) parts.flatten, (rate : Int), 0, 0, ()) := by
  have := Spec_at (ks := p_keccak_started_ks) (rs := p_keccak_started_rs) (x := ((rate : Int), parts, ())) (Q := fun x => okRate x.1) (f := fun x => (true, absorb x.1.toNat 31 (z25, 0) x.2.1.flatten, x.1, 0, 0, ()))
    ⟨okInt_i64.2 (by omega), wf_parts.2 hl, trivial⟩ ⟨by show (8 : Int) ≤ rate; omega, by show (rate : Int) ≤ 200; omega⟩
  exact this
theorem q_keccak_Shake128 : ∀ x r, g_keccak_Shake128 x = some r → ∃ N, p_keccak_Shake128 N x = some r := by
  refine Spec_of (ks := p_keccak_Shake128_ks) (rs := p_keccak_Shake128_rs) fun x hw hq => ⟨0, ?_⟩
  obtain ⟨(parts : List (List Int)), u⟩ := x
  have hp : partsOk parts := wf_parts.1 hw.1
  unfold p_keccak_Shake128
  refine (congrArg (fun o => Option.bind o _) (at_started (rate := 168) (by omega) hp)).trans ?_
  rw [Option.bind_some]
  rfl
theorem at_Shake128 {parts : List (List Int)} (hl : partsOk parts) : g_keccak_Shake128 (parts, ()) = some (true, absorb 168 31 (z25, 0) parts.flatten, 168, 0, 0, ()) :=
  Spec_at (ks := p_keccak_Shake128_ks) (rs := p_keccak_Shake128_rs) (x := (parts, ())) ⟨wf_parts.2 hl, trivial⟩ trivial
end Go.Ax.TryP
/-! ### Outputs are read -/
set_option linter.unusedVariables false
namespace Go.Ax.TryP
theorem wf_xf {b : Bool} {a : List Int} {r p c : Int} : csWf [.bool, .xs (.int .u64) 25, .int .i64, .int .i64, .int .i64] (b, a, r, p, c, ()) ↔ u64s 25 a ∧ (-9223372036854775808 ≤ r ∧ r ≤ 9223372036854775807) ∧ (-9223372036854775808 ≤ p ∧ p ≤ 9223372036854775807) ∧ (-9223372036854775808 ≤ c ∧ c ≤ 9223372036854775807) := by
  have h1 : FK.wf (.xs (.int .u64) 25) a ↔ u64s 25 a := by simp [FK.wf, u64s, rows, okInt_u64]
  have h2 : FK.wf (.int .i64) r ↔ _ := okInt_i64
  have h3 : FK.wf (.int .i64) p ↔ _ := okInt_i64
  have h4 : FK.wf (.int .i64) c ↔ _ := okInt_i64
  have h5 : FK.wf .bool b ↔ True := by simp [FK.wf]
  simp only [csWf, h1, h2, h3, h4, h5, and_true, true_and]
theorem at_gives {a out : List Int} {rate p : Nat} (ha : u64s 25 a) (hr : 8 ≤ rate ∧ rate ≤ 200) (hp : p ≤ rate) (ho : out.length ≤ maxLen ∧ ∀ z ∈ out, 0 ≤ z ∧ z ≤ 255) :
    g_keccak_sponge_gives ((a, (rate : Int), (p : Int), ()), out, ()) = some (((stOf rate a (p + out.length)).1, (rate : Int), ((stOf rate a (p + out.length)).2 : Int), ()), (List.range out.length).map fun k => outB rate a (p + k)) := by
  have := Spec_at (ks := p_keccak_sponge_gives_ks) (rs := p_keccak_sponge_gives_rs) (x := ((a, (rate : Int), (p : Int), ()), out, ())) (Q := fun x => okRate x.1.2.1 ∧ 0 ≤ x.1.2.2.1 ∧ x.1.2.2.1 ≤ x.1.2.1)
    (f := fun x => (((stOf x.1.2.1.toNat x.1.1 (x.1.2.2.1.toNat + x.2.1.length)).1, x.1.2.1, ((stOf x.1.2.1.toNat x.1.1 (x.1.2.2.1.toNat + x.2.1.length)).2 : Int), ()), (List.range x.2.1.length).map fun k => outB x.1.2.1.toNat x.1.1 (x.1.2.2.1.toNat + k)))
    ⟨wf_sp.2 ⟨ha, by omega, by omega⟩, ⟨ho.1, fun z hz => okInt_u8.2 (ho.2 z hz)⟩, trivial⟩ ⟨⟨by show (8 : Int) ≤ rate; omega, by show (rate : Int) ≤ 200; omega⟩, by show (0 : Int) ≤ p; omega, by show (p : Int) ≤ rate; omega⟩
  exact this
theorem at_none {a : List Int} {r p c : Int} (h : csWf [.bool, .xs (.int .u64) 25, .int .i64, .int .i64, .int .i64] (true, a, r, p, c, ())) : g_keccak_Xof_none ((true, a, r, p, c, ()), ()) = some (false, (true, a, r, p, c, ())) :=
  Spec_at (ks := p_keccak_Xof_none_ks) (rs := p_keccak_Xof_none_rs) (x := ((true, a, r, p, c, ()), ())) ⟨h, trivial⟩ trivial
theorem at_may {n : Int} (h : 0 ≤ n ∧ n ≤ 1048576) : g_keccak_may (n, ()) = some 0 := by
  have := Spec_at (ks := p_keccak_may_ks) (rs := p_keccak_may_rs) (Q := fun _ => True) (f := fun x => fMay x.1) (x := (n, ())) ⟨okInt_i64.2 (by omega), trivial⟩ trivial
  refine this.trans ?_
  show some (fMay n) = _
  unfold fMay
  rw [if_neg (by omega), if_neg (by omega)]
theorem q_keccak_Xof_Read : ∀ x r, g_keccak_Xof_Read x = some r → ∃ N, p_keccak_Xof_Read N x = some r := by
  refine Spec_of (ks := p_keccak_Xof_Read_ks) (rs := p_keccak_Xof_Read_rs) fun x hw hq => ⟨0, ?_⟩
  obtain ⟨⟨(b : Bool), (a : List Int), (r : Int), (p : Int), (c : Int), u⟩, (n : Int), v⟩ := x
  obtain ⟨hb, hn0, hn1, hr, hp0, hp1⟩ : b = true ∧ 0 ≤ n ∧ n ≤ 1048576 ∧ (8 ≤ r ∧ r ≤ 200) ∧ 0 ≤ p ∧ p ≤ r := hq
  subst hb
  have hx := wf_xf.1 hw.1
  obtain ⟨rate, rfl⟩ : ∃ m : Nat, r = m := ⟨r.toNat, by omega⟩
  obtain ⟨q, rfl⟩ : ∃ m : Nat, p = m := ⟨p.toNat, by omega⟩
  obtain ⟨m, rfl⟩ : ∃ m : Nat, n = m := ⟨n.toNat, by omega⟩
  have hM : 1048576 ≤ maxLen := by decide
  have hg := at_gives (a := a) (out := List.replicate m 0) (rate := rate) (p := q) hx.1 (by omega) (by omega) ⟨by simp; omega, fun z hz => by rw [List.eq_of_mem_replicate hz]; omega⟩
  rw [List.length_replicate] at hg
  unfold p_keccak_Xof_Read
  refine (congrArg (fun o => Option.bind o _) (at_none hw.1)).trans ?_
  rw [Option.bind_some, if_neg (by simp)]
  dsimp only
  rw [at_may (by omega), Option.bind_some, if_neg (by omega), if_pos (by omega), if_pos rfl, if_pos (by omega), Int.toNat_natCast, hg, Option.bind_some]
  dsimp only
  simp only [Int.toNat_natCast, decide_true]
end Go.Ax.TryP
/-! ### Outputs: places behind places -/
set_option linter.unusedVariables false
namespace Go.Ax.TryP
theorem perms_add (a : List Int) (m : Nat) : ∀ n : Nat, perms n (perms m a) = perms (m + n) a
  | 0 => rfl
  | n + 1 => by rw [perms, perms_add a m n]; rfl
/-- A state and place stand for all places behind. -/
theorem outB_st {rate : Nat} (hr : 0 < rate) (a : List Int) (p k : Nat) : outB rate (stOf rate a p).1 ((stOf rate a p).2 + k) = outB rate a (p + k) := by
  unfold outB stOf
  dsimp only
  have e := Nat.div_add_mod (p - 1) rate
  generalize (p - 1) / rate = q at *
  have h : p + k = (p - q * rate + k) + rate * q := by
    rw [Nat.mul_comm] at e
    have : q * rate ≤ p := by omega
    rw [Nat.mul_comm rate q]; omega
  rw [h, Nat.add_mul_div_left _ _ hr, Nat.add_mul_mod_self_left, perms_add, Nat.add_comm q]
theorem stOf_st {rate : Nat} (hr : 0 < rate) (a : List Int) (p k : Nat) (hk : 0 < k) : stOf rate (stOf rate a p).1 ((stOf rate a p).2 + k) = stOf rate a (p + k) := by
  unfold stOf
  dsimp only
  have e := Nat.div_add_mod (p - 1) rate
  generalize (p - 1) / rate = q at *
  have h0 : q * rate ≤ p := by rw [Nat.mul_comm] at e; omega
  have h : p + k - 1 = (p - q * rate + k - 1) + rate * q := by
    rw [Nat.mul_comm rate q]; omega
  rw [h, Nat.add_mul_div_left _ _ hr, perms_add, Nat.add_comm q, Nat.add_mul]
  congr 1
  omega
end Go.Ax.TryP
/-! ### The reference's sponge: parts -/
set_option linter.unusedVariables false
namespace Go.Ax.TryP
theorem x64_zero {z : Int} (h : 0 ≤ z ∧ z ≤ 18446744073709551615) : x64 z 0 = z := by
  obtain ⟨n, rfl⟩ : ∃ n : Nat, z = n := ⟨z.toNat, by omega⟩
  unfold x64
  rw [show (0 : Int) = ((0 : Nat) : Int) from rfl, ixor_nat rfl (by simp [IntKind.bits]; omega) (by decide)]
  simp
theorem ishl_zero (s : Int) : ishl .u64 0 s = 0 := by simp [ishl, IntKind.wrap, IntKind.signed]
theorem set_self {a : List Int} {i : Nat} : a.set i (a.getD i 0) = a := by
  by_cases h : i < a.length
  · refine rows.ext (n := a.length) (by simp) rfl fun j hj => ?_
    by_cases e : i = j
    · subst e; rw [getD_set_eq h]
    · rw [getD_set_ne e]
  · rw [List.set_eq_of_length_le (by omega)]
theorem putS_zero {a : List Int} (h : u64s 25 a) (p : Nat) : putS a p 0 = a := by
  unfold putS
  rw [ishl_zero, x64_zero (h.at _)]
  exact set_self
theorem at_Sponge {rate n : Nat} {l : List Int} {e : Int} (hr : 8 ≤ rate ∧ rate ≤ 200) (hn : n ≤ 1048576) (he : 0 ≤ e ∧ e ≤ 255) (hl : (l.length ≤ maxLen ∧ ∀ z ∈ l, 0 ≤ z ∧ z ≤ 255) ∧ l.length ≤ 4294967000) :
    g_ref03_Sponge ((rate : Int), e, l, (n : Int), ()) = some (spongeS rate e l n) := by
  have := Spec_at (ks := p_ref03_Sponge_ks) (rs := p_ref03_Sponge_rs) (x := ((rate : Int), e, l, (n : Int), ())) (Q := fun x => okRate x.1 ∧ 0 ≤ x.2.2.2.1 ∧ x.2.2.2.1 ≤ 1048576 ∧ x.2.2.1.length ≤ 4294967000) (f := fun x => spongeS x.1.toNat x.2.1 x.2.2.1 x.2.2.2.1.toNat)
    ⟨okInt_i64.2 (by omega), okInt_u8.2 he, wf_bytes.2 hl.1, (okInt_i64 (n := (n : Int))).2 (by omega), trivial⟩ ⟨⟨by show (8 : Int) ≤ rate; omega, by show (rate : Int) ≤ 200; omega⟩, by show (0 : Int) ≤ n; omega, by show (n : Int) ≤ 1048576; omega, hl.2⟩
  exact this
theorem q_ref03_Shake : ∀ x r, g_ref03_Shake x = some r → ∃ N, p_ref03_Shake N x = some r := by
  refine Spec_of (ks := p_ref03_Shake_ks) (rs := p_ref03_Shake_rs) fun x hw hq => ⟨0, ?_⟩
  obtain ⟨(b : Int), (n : Int), (l : List Int), u⟩ := x
  have hl := wf_bytes.1 hw.2.2.1
  obtain ⟨h0, h1, h2⟩ : 0 ≤ n ∧ n ≤ 1048576 ∧ l.length ≤ 4294967000 := hq
  obtain ⟨m, rfl⟩ : ∃ m : Nat, n = m := ⟨n.toNat, by omega⟩
  unfold p_ref03_Shake
  dsimp only
  split
  · rw [show (168 : Int) = ((168 : Nat) : Int) from rfl, at_Sponge (by omega) (by omega) (by omega) ⟨hl, h2⟩, Option.bind_some]
    rfl
  · rw [show (136 : Int) = ((136 : Nat) : Int) from rfl, at_Sponge (by omega) (by omega) (by omega) ⟨hl, h2⟩, Option.bind_some]
    rfl
/-- A block of the reference. -/
theorem block_step {rate : Nat} {n : Int} {L : Nat} {b : List Int} {at_ : Nat} {a : List Int} {i : Nat} (hr : 8 ≤ rate ∧ rate ≤ 200) (ha : u64s 25 a) (hb : b.length = L) (hL : L ≤ 4294967296) (hz : ∀ z ∈ b, 0 ≤ z ∧ z ≤ 255) (hat : at_ + rate ≤ L) (hi : i < rate)
    {β : Type} (N : Nat) (kn : _ → Option β) (k : _ → Option β) :
    p_ref03_Sponge_l10_F N β ((rate : Int), n, L, (at_ : Int), (rate : Int), (i : Int), L, b, a, ()) kn k = kn ((rate : Int), n, L, (at_ : Int), (rate : Int), ((i + 1 : Nat) : Int), L, b, putS a i (b.getD (at_ + i) 0), ()) := by
  have hx := hz _ (getD_mem (a := b) (i := at_ + i) (by omega))
  unfold p_ref03_Sponge_l10_F
  dsimp only
  rw [if_pos (by omega), tdiv8, tmod8, wrap_i64 (x := ((i / 8 : Nat) : Int)) (by omega) (by omega), wrap_i64 (x := (at_ : Int) + i) (by omega) (by omega), wrap_i64 (x := 8 * ((i % 8 : Nat) : Int)) (by omega) (by omega), wrap_u64 (x := 8 * ((i % 8 : Nat) : Int)) (by omega) (by omega), wrap_i64 (by omega) (by omega),
    Int.toNat_natCast, show ((at_ : Int) + i).toNat = at_ + i by omega, if_pos (by omega), if_pos (by omega), if_pos (by omega), if_pos (by omega), if_pos (by omega), if_pos (by omega), if_neg (by omega), if_pos (by omega), if_pos (by omega), if_pos (by omega), wrap_u64 (by omega) (by omega)]
  rfl
end Go.Ax.TryP
/-! ### The reference's sponge: blocks -/
set_option linter.unusedVariables false
namespace Go.Ax.TryP
def foldB (b : List Int) (p : Nat) (a : List Int) : Nat → List Int
  | 0 => a
  | i + 1 => putS (foldB b p a i) i (b.getD (p + i) 0)
theorem foldB_u {b : List Int} {p : Nat} {a : List Int} (h : u64s 25 a) : ∀ i : Nat, u64s 25 (foldB b p a i)
  | 0 => h
  | i + 1 => putS_u (foldB_u h i) _ _
theorem take_one {b : List Int} {p i : Nat} (h : p + i < b.length) : (b.drop p).take (i + 1) = (b.drop p).take i ++ [b.getD (p + i) 0] := by
  rw [List.take_succ_eq_append_getElem (by simp; omega), List.getElem_drop, List.getD_eq_getElem?_getD, List.getElem?_eq_getElem h]
  rfl
theorem feed_part {rate : Nat} {b : List Int} {p : Nat} {a : List Int} : ∀ i : Nat, i < rate → p + i ≤ b.length → feed rate (a, 0) ((b.drop p).take i) = (foldB b p a i, i)
  | 0, _, _ => rfl
  | i + 1, h, hb => by
    rw [take_one (by omega), feed_append, feed_part i (by omega) (by omega), feed_one]
    unfold stepT
    rw [if_neg (by show ¬ i + 1 = rate; omega)]
    rfl
theorem feed_block {rate : Nat} {b : List Int} {p : Nat} {a : List Int} (hr : 0 < rate) (hb : p + rate ≤ b.length) : feed rate (a, 0) ((b.drop p).take rate) = (permS (foldB b p a rate), 0) := by
  obtain ⟨i, rfl⟩ : ∃ i, rate = i + 1 := ⟨rate - 1, by omega⟩
  rw [take_one (by omega), feed_append, feed_part i (by omega) (by omega), feed_one]
  unfold stepT
  rw [if_pos rfl]
  rfl
theorem block_all {rate : Nat} {n : Int} {L : Nat} {b : List Int} {p : Nat} {a : List Int} (hr : 8 ≤ rate ∧ rate ≤ 200) (ha : u64s 25 a) (hb : b.length = L) (hL : L ≤ 4294967296) (hz : ∀ z ∈ b, 0 ≤ z ∧ z ≤ 255) (hat : p + rate ≤ L)
    {β : Type} {N : Nat} (hN : rate < N) {k : _ → Option β} :
    iter (p_ref03_Sponge_l10_F N) N ((rate : Int), n, L, (p : Int), (rate : Int), (0 : Int), L, b, a, ()) k = k ((rate : Int), n, L, (p : Int), L, b, foldB b p a rate, ()) := by
  refine iter_from (F := p_ref03_Sponge_l10_F N) (s := fun i => ((rate : Int), n, L, (p : Int), (rate : Int), (i : Int), L, b, foldB b p a i, ())) (y := ((rate : Int), n, L, (p : Int), L, b, foldB b p a rate, ())) rate rfl ?_ ?_ N hN
  · exact fun i hi kn => block_step hr (foldB_u ha i) hb hL hz hat hi N kn k
  · intro kn
    unfold p_ref03_Sponge_l10_F
    dsimp only
    rw [if_neg (by omega)]
theorem blocks_all {rate : Nat} {n : Int} {L m : Nat} {b : List Int} (hr : 8 ≤ rate ∧ rate ≤ 200) (hb : b.length = L) (hL : L ≤ 4294967296) (hz : ∀ z ∈ b, 0 ≤ z ∧ z ≤ 255) (hm : L = m * rate)
    {β : Type} {N : Nat} (hN : rate < N) (hN2 : m < N) {k : _ → Option β} :
    iter (p_ref03_Sponge_l7_F N) N ((rate : Int), n, L, (0 : Int), L, b, z25, ()) k = k ((rate : Int), n, (feed rate (z25, 0) b).1, ()) := by
  have hall : ∀ j : Nat, j ≤ m → (feed rate (z25, 0) (b.take (j * rate))).2 = 0 ∧ u64s 25 (feed rate (z25, 0) (b.take (j * rate))).1 := by
    intro j
    induction j with
    | zero => intro _; rw [Nat.zero_mul]; exact ⟨rfl, z25_u⟩
    | succ j ih =>
      intro hj
      obtain ⟨i1, i2⟩ := ih (by omega)
      have hle : (j + 1) * rate ≤ m * rate := Nat.mul_le_mul_right _ hj
      rw [Nat.add_mul, Nat.one_mul] at hle ⊢
      rw [List.take_add, feed_append]
      generalize feed rate (z25, 0) (b.take (j * rate)) = S at *
      obtain ⟨S1, S2⟩ := S
      dsimp only at i1 i2
      subst i1
      rw [feed_block (by omega) (by omega)]
      exact ⟨rfl, permS_u (foldB_u i2 _)⟩
  refine iter_from (F := p_ref03_Sponge_l7_F N) (s := fun j => ((rate : Int), n, L, ((j * rate : Nat) : Int), L, b, (feed rate (z25, 0) (b.take (j * rate))).1, ())) (y := ((rate : Int), n, (feed rate (z25, 0) b).1, ())) m ?_ ?_ ?_ N hN2
  · rw [Nat.zero_mul]; rfl
  · intro j hj kn
    obtain ⟨i1, i2⟩ := hall j (by omega)
    have hle : (j + 1) * rate ≤ m * rate := Nat.mul_le_mul_right _ hj
    have e : feed rate (z25, 0) (b.take ((j + 1) * rate)) = (permS (foldB b (j * rate) (feed rate (z25, 0) (b.take (j * rate))).1 rate), 0) := by
      rw [Nat.add_mul, Nat.one_mul] at hle ⊢
      rw [List.take_add, feed_append]
      generalize feed rate (z25, 0) (b.take (j * rate)) = S at *
      obtain ⟨S1, S2⟩ := S
      dsimp only at i1 i2
      subst i1
      exact feed_block (by omega) (by omega)
    rw [e]
    rw [Nat.add_mul, Nat.one_mul] at hle ⊢
    unfold p_ref03_Sponge_l7_F
    dsimp only
    rw [if_pos (by omega), block_all hr i2 hb hL hz (by omega) hN]
    dsimp only
    rw [at_perm' (foldB_u i2 _), Option.bind_some, wrap_i64 (by omega) (by omega), Int.natCast_add]
  · intro kn
    unfold p_ref03_Sponge_l7_F
    dsimp only
    rw [if_neg (by omega), ← hm, ← hb, List.take_length]
end Go.Ax.TryP
/-! ### The reference's sponge: bytes come out -/
set_option linter.unusedVariables false
namespace Go.Ax.TryP
theorem at_bytes {a : List Int} {k : Nat} (ha : u64s 25 a) (hk : k ≤ 200) : g_ref03_bytes (a, (k : Int), ()) = some ((List.range k).map (byteOf a)) := by
  have := Spec_at (ks := p_ref03_bytes_ks) (rs := p_ref03_bytes_rs) (x := (a, (k : Int), ())) (Q := fun x => 0 ≤ x.2.1 ∧ x.2.1 ≤ 200) (f := fun x => (List.range x.2.1.toNat).map (byteOf x.1))
    ⟨wf_u64s.2 ha, (okInt_i64 (n := (k : Int))).2 (by omega), trivial⟩ ⟨by show (0 : Int) ≤ k; omega, by show (k : Int) ≤ 200; omega⟩
  exact this
theorem out_more {rate : Nat} {a : List Int} {j k : Nat} (hr : 0 < rate) (hk : k ≤ rate) : (List.range (j * rate)).map (outB rate a) ++ (List.range k).map (byteOf (perms j a)) = (List.range (j * rate + k)).map (outB rate a) := by
  rw [List.range_add, List.map_append, List.map_map]
  congr 1
  refine List.map_congr_left fun i hi => ?_
  have hi : i < k := List.mem_range.1 hi
  show _ = outB rate a (j * rate + i)
  unfold outB
  rw [Nat.add_comm, Nat.mul_comm, Nat.add_mul_div_left _ _ hr, Nat.add_mul_mod_self_left, Nat.div_eq_of_lt (by omega), Nat.mod_eq_of_lt (by omega), Nat.zero_add]
theorem min_if {a b : Nat} : (if ((a : Int)) < (b : Int) then (a : Int) else (b : Int)) = ((min a b : Nat) : Int) := by
  split <;> omega
theorem squeeze_all {rate n : Nat} {a : List Int} (hr : 8 ≤ rate ∧ rate ≤ 200) (hn : n ≤ 1048576) (ha : u64s 25 a) {β : Type} {N : Nat} (hN : n < N) {k : _ → Option β} :
    iter (p_ref03_Sponge_l16_F N) N ((rate : Int), (n : Int), 0, a, 0, (List.replicate 0 0), ()) k = k (n, n, (List.range n).map (outB rate a), ()) := by
  have h0 : 0 < rate := by omega
  have hm : (n + rate - 1) / rate ≤ n := by
    rw [Nat.div_le_iff_le_mul_add_pred h0]
    have : n ≤ rate * n := Nat.le_mul_of_pos_left n h0
    omega
  have e := Nat.div_add_mod (n + rate - 1) rate
  have e1 := Nat.mod_lt (n + rate - 1) h0
  generalize (n + rate - 1) / rate = m at *
  rw [Nat.mul_comm] at e
  refine iter_from (F := p_ref03_Sponge_l16_F N) (s := fun j => ((rate : Int), (n : Int), min (j * rate) n, perms (j - 1) a, min (j * rate) n, (List.range (min (j * rate) n)).map (outB rate a), ())) (y := (n, n, (List.range n).map (outB rate a), ())) m ?_ ?_ ?_ N (by omega)
  · rw [Nat.zero_mul, Nat.zero_min]; rfl
  · intro j hj kn
    have hle : (j + 1) * rate ≤ m * rate := Nat.mul_le_mul_right _ hj
    rw [Nat.add_mul, Nat.one_mul] at hle ⊢
    have hc : min (j * rate) n = j * rate := by omega
    have hc2 : min (j * rate + rate) n = j * rate + min (n - j * rate) rate := by omega
    have hw : IntKind.i64.wrap ((n : Int) - ((j * rate : Nat) : Int)) = ((n - j * rate : Nat) : Int) := by rw [wrap_i64 (by omega) (by omega)]; omega
    have hp := perms_u ha j
    rw [hc, hc2, ← out_more h0 (by omega)]
    unfold p_ref03_Sponge_l16_F
    dsimp only
    rw [if_pos (by omega), hw, min_if]
    by_cases hj0 : j = 0
    · subst hj0
      rw [if_neg (by omega)]
      have q : g_ref03_bytes (perms (0 - 1) a, ((min (n - 0 * rate) rate : Nat) : Int), ()) = _ := at_bytes (a := perms 0 a) hp (by omega)
      rw [q, Option.bind_some, List.length_map, List.length_range, if_pos (by omega)]
    · obtain ⟨i, rfl⟩ : ∃ i, j = i + 1 := ⟨j - 1, by omega⟩
      have hpos : 0 < (i + 1) * rate := Nat.mul_pos (by omega) h0
      rw [if_pos (by omega)]
      have q : g_ref03_Permute (perms (i + 1 - 1) a, ()) = some (perms (i + 1) a) := at_perm' (perms_u ha i)
      rw [q, Option.bind_some, at_bytes hp (by omega), Option.bind_some, List.length_map, List.length_range, if_pos (by omega)]
      rfl
  · intro kn
    have hc : min (m * rate) n = n := by omega
    unfold p_ref03_Sponge_l16_F
    dsimp only
    rw [hc, if_neg (by omega)]
end Go.Ax.TryP
