/- A part of the proof: KkS2, KkP2, KkQ2. -/
import Derived.Test.YtplhlghciccaiaaKrB
set_option linter.unusedVariables false
namespace Go.Ax.TryP
open Go.Proofs
def putS (a : List Int) (p : Nat) (x : Int) : List Int := a.set (p / 8) (x64 (at0 a (p / 8)) (ishl .u64 x ((8 * (p % 8) : Nat) : Int)))
def stepT (rate : Nat) (s : List Int × Nat) (x : Int) : List Int × Nat := if s.2 + 1 = rate then (permS (putS s.1 s.2 x), 0) else (putS s.1 s.2 x, s.2 + 1)
def feed (rate : Nat) (s : List Int × Nat) (l : List Int) : List Int × Nat := l.foldl (stepT rate) s
def absorb (rate : Nat) (e : Int) (s : List Int × Nat) (l : List Int) : List Int :=
  permS (putS (putS (feed rate s l).1 (feed rate s l).2 e) (rate - 1) 128)
def perms : Nat → List Int → List Int
  | 0, a => a
  | n + 1, a => permS (perms n a)
def byteOf (a : List Int) (i : Nat) : Int := IntKind.u8.wrap (ishr .u64 (at0 a (i / 8)) ((8 * (i % 8) : Nat) : Int))
def outB (rate : Nat) (a : List Int) (p : Nat) : Int := byteOf (perms (p / rate) a) (p % rate)
def stOf (rate : Nat) (a : List Int) (p : Nat) : List Int × Nat := (perms ((p - 1) / rate) a, p - (p - 1) / rate * rate)
def okRate (r : Int) : Prop := 8 ≤ r ∧ r ≤ 200
abbrev Sp := List Int × Int × Int × Unit
noncomputable def g_keccak_sponge_put : Sp × Int × Unit → Option Sp := Spec (ks := [.io [.xs (.int .u64) 25, .int .i64, .int .i64], .int .u8]) (rs := [.cat [.xs (.int .u64) 25, .int .i64, .int .i64]]) (fun x => 0 ≤ x.1.2.2.1 ∧ x.1.2.2.1 < 200) fun x => (putS x.1.1 x.1.2.2.1.toNat x.2.1, x.1.2.1, x.1.2.2.1, ())
noncomputable def g_keccak_sponge_takes : Sp × Int × List (List Int) × Unit → Option Sp := Spec (ks := [.io [.xs (.int .u64) 25, .int .i64, .int .i64], .int .u8, .sls (.int .u8)]) (rs := [.cat [.xs (.int .u64) 25, .int .i64, .int .i64]])
  (fun x => okRate x.1.2.1 ∧ 0 ≤ x.1.2.2.1 ∧ x.1.2.2.1 < x.1.2.1) fun x => (absorb x.1.2.1.toNat x.2.1 (x.1.1, x.1.2.2.1.toNat) x.2.2.1.flatten, x.1.2.1, 0, ())
noncomputable def g_keccak_sponge_gives : Sp × List Int × Unit → Option (Sp × List Int) := Spec (ks := [.io [.xs (.int .u64) 25, .int .i64, .int .i64], .ios (.int .u8)]) (rs := [.cat [.xs (.int .u64) 25, .int .i64, .int .i64], .xv (.int .u8)])
  (fun x => okRate x.1.2.1 ∧ 0 ≤ x.1.2.2.1 ∧ x.1.2.2.1 ≤ x.1.2.1)
  fun x => (((stOf x.1.2.1.toNat x.1.1 (x.1.2.2.1.toNat + x.2.1.length)).1, x.1.2.1, ((stOf x.1.2.1.toNat x.1.1 (x.1.2.2.1.toNat + x.2.1.length)).2 : Int), ()), (List.range x.2.1.length).map fun k => outB x.1.2.1.toNat x.1.1 (x.1.2.2.1.toNat + k))
abbrev Xf := Bool × List Int × Int × Int × Int × Unit
noncomputable def g_keccak_Xof_none : Xf × Unit → Option (Bool × Xf) := Spec (ks := [.io [.bool, .xs (.int .u64) 25, .int .i64, .int .i64, .int .i64]]) (rs := [.bool, .cat [.bool, .xs (.int .u64) 25, .int .i64, .int .i64, .int .i64]]) (fun _ => True) fun x => (!x.1.1, x.1)
def fMay (n : Int) : Int := if n < 0 then 1 else if 1048576 < n then 3 else 0
noncomputable def g_keccak_may : Int × Unit → Option Int := Spec (ks := [.int .i64]) (rs := [.int .i64]) (fun _ => True) fun x => fMay x.1
noncomputable def g_keccak_Xof_Read : Xf × Int × Unit → Option (List Int × Int × Xf) := Spec (ks := [.io [.bool, .xs (.int .u64) 25, .int .i64, .int .i64, .int .i64], .int .i64]) (rs := [.sl (.int .u8), .int .i64, .cat [.bool, .xs (.int .u64) 25, .int .i64, .int .i64, .int .i64]])
  (fun x => x.1.1 = true ∧ 0 ≤ x.2.1 ∧ x.2.1 ≤ 1048576 ∧ okRate x.1.2.2.1 ∧ 0 ≤ x.1.2.2.2.1 ∧ x.1.2.2.2.1 ≤ x.1.2.2.1)
  fun x => ((List.range x.2.1.toNat).map (fun k => outB x.1.2.2.1.toNat x.1.2.1 (x.1.2.2.2.1.toNat + k)), 0,
    (true, (stOf x.1.2.2.1.toNat x.1.2.1 (x.1.2.2.2.1.toNat + x.2.1.toNat)).1, x.1.2.2.1, ((stOf x.1.2.2.1.toNat x.1.2.1 (x.1.2.2.2.1.toNat + x.2.1.toNat)).2 : Int), IntKind.i64.wrap (x.1.2.2.2.2.1 + x.2.1), ()))
noncomputable def g_keccak_started : Int × List (List Int) × Unit → Option Xf := Spec (ks := [.int .i64, .sls (.int .u8)]) (rs := [.op [.bool, .xs (.int .u64) 25, .int .i64, .int .i64, .int .i64]]) (fun x => okRate x.1) fun x => (true, absorb x.1.toNat 31 (z25, 0) x.2.1.flatten, x.1, 0, 0, ())
noncomputable def g_keccak_Shake128 : List (List Int) × Unit → Option Xf := Spec (ks := [.sls (.int .u8)]) (rs := [.op [.bool, .xs (.int .u64) 25, .int .i64, .int .i64, .int .i64]]) (fun _ => True) fun x => (true, absorb 168 31 (z25, 0) x.1.flatten, 168, 0, 0, ())
def spongeS (rate : Nat) (e : Int) (l : List Int) (n : Nat) : List Int := (List.range n).map (outB rate (absorb rate e (z25, 0) l))
noncomputable def g_ref01_Join : List (List Int) × Unit → Option (List Int) := Spec (ks := [.sls (.int .u8)]) (rs := [.sl (.int .u8)]) (fun x => x.1.flatten.length ≤ 4294967296) fun x => x.1.flatten
noncomputable def g_ref03_bytes : List Int × Int × Unit → Option (List Int) := Spec (ks := [.xs (.int .u64) 25, .int .i64]) (rs := [.sl (.int .u8)]) (fun x => 0 ≤ x.2.1 ∧ x.2.1 ≤ 200) fun x => (List.range x.2.1.toNat).map (byteOf x.1)
noncomputable def g_ref03_Sponge : Int × Int × List Int × Int × Unit → Option (List Int) := Spec (ks := [.int .i64, .int .u8, .sl (.int .u8), .int .i64]) (rs := [.sl (.int .u8)]) (fun x => okRate x.1 ∧ 0 ≤ x.2.2.2.1 ∧ x.2.2.2.1 ≤ 1048576 ∧ x.2.2.1.length ≤ 4294967000) fun x => spongeS x.1.toNat x.2.1 x.2.2.1 x.2.2.2.1.toNat
noncomputable def g_ref03_Shake : Int × Int × List Int × Unit → Option (List Int) := Spec (ks := [.int .i64, .int .i64, .sl (.int .u8)]) (rs := [.sl (.int .u8)]) (fun x => 0 ≤ x.2.1 ∧ x.2.1 ≤ 1048576 ∧ x.2.2.1.length ≤ 4294967000) fun x => spongeS (if x.1 = 128 then 168 else 136) 31 x.2.2.1 x.2.1.toNat
def ntt128 (seed : List Int) (p : Nat) : Int := outB 168 (absorb 168 31 (z25, 0) seed) p
def twoOf (seed : List Int) (t : Nat) : List Int := [ntt128 seed (3 * t) + 256 * (ntt128 seed (3 * t + 1) % 16), ntt128 seed (3 * t + 1) / 16 + 16 * ntt128 seed (3 * t + 2)]
def accS (seed : List Int) : Nat → List Int
  | 0 => []
  | t + 1 => accS seed t ++ (twoOf seed t).filter fun z => decide (z < 3329)
def sampleS (seed : List Int) : List Int × Int := if seed.length ≠ 34 then (List.replicate 256 0, 1) else if (accS seed 1024).length < 256 then (List.replicate 256 0, 130) else ((accS seed 1024).take 256, 0)
noncomputable def g_ring_SampleNtt : List Int × Unit → Option (List Int × Int) := Spec (ks := [.sl (.int .u8)]) (rs := [.xs (.int .u16) 256, .int .i64]) (fun _ => True) fun x => sampleS x.1
noncomputable def g_keccak_Shake256 : List (List Int) × Unit → Option Xf := Spec (ks := [.sls (.int .u8)]) (rs := [.op [.bool, .xs (.int .u64) 25, .int .i64, .int .i64, .int .i64]]) (fun _ => True) fun x => (true, absorb 136 31 (z25, 0) x.1.flatten, 136, 0, 0, ())
noncomputable def g_keccak_Shake : Int × Int × List (List Int) × Unit → Option (List Int × Int) := Spec (ks := [.int .i64, .int .i64, .sls (.int .u8)]) (rs := [.sl (.int .u8), .int .i64]) (fun x => (x.1 = 128 ∨ x.1 = 256) ∧ 0 ≤ x.2.1 ∧ x.2.1 ≤ 1048576) fun x => (spongeS (if x.1 = 128 then 168 else 136) 31 x.2.2.1.flatten x.2.1.toNat, 0)
end Go.Ax.TryP
set_option linter.unusedVariables false
namespace Go.Ax.TryP
open Go.Proofs
noncomputable def p_keccak_sponge_put_E : AE := AE.of [(3, ty3), (5, ty5), (71, ty71), (72, ty72), (74, ty74)] []
noncomputable def p_keccak_sponge_put_H : Hints := [(3000000, [])]
noncomputable def p_keccak_sponge_put_c : Code := (Try.f60).body.getD .skip
abbrev p_keccak_sponge_put_ks : List Kd := [.io [.xs (.int .u64) 25, .int .i64, .int .i64], .int .u8]
abbrev p_keccak_sponge_put_rs : List Kd := [.cat [.xs (.int .u64) 25, .int .i64, .int .i64]]
noncomputable def p_keccak_sponge_put (N : Nat) (x : (List Int × Int × Int × Unit) × Int × Unit) : Option ((List Int × Int × Int × Unit)) :=
  if 0 ≤ (IntKind.i64.wrap (Int.tdiv x.1.2.2.1 (8:Int))) then (
  if (IntKind.i64.wrap (Int.tdiv x.1.2.2.1 (8:Int))) < 25 then (
  if ((IntKind.i64.wrap (Int.tdiv x.1.2.2.1 (8:Int))).toNat) < 25 then (
  if (IntKind.i64.wrap ((8:Int) * (Int.tmod x.1.2.2.1 (8:Int)))) < 0 then none else (
  if 0 ≤ (IntKind.i64.wrap (Int.tdiv x.1.2.2.1 (8:Int))) then (
  if (IntKind.i64.wrap (Int.tdiv x.1.2.2.1 (8:Int))) < 25 then (
  if ((IntKind.i64.wrap (Int.tdiv x.1.2.2.1 (8:Int))).toNat) < 25 then (
  some ((List.set x.1.1 ((IntKind.i64.wrap (Int.tdiv x.1.2.2.1 (8:Int))).toNat) (ixor IntKind.u64 (List.getD x.1.1 ((IntKind.i64.wrap (Int.tdiv x.1.2.2.1 (8:Int))).toNat) 0) (ishl IntKind.u64 (IntKind.u64.wrap x.2.1) (IntKind.i64.wrap ((8:Int) * (Int.tmod x.1.2.2.1 (8:Int))))))), x.1.2.1, x.1.2.2.1, ())) else none) else none) else none)) else none) else none) else none
theorem p_keccak_sponge_put_eq (N : Nat) (x : Ds [.io [.xs (.int .u64) 25, .int .i64, .int .i64], .int .u8]) : funL p_keccak_sponge_put_E p_keccak_sponge_put_H (LT.nil) N Try.f60 p_keccak_sponge_put_c [.io [.xs (.int .u64) 25, .int .i64, .int .i64], .int .u8] [.cat [.xs (.int .u64) 25, .int .i64, .int .i64]] x = p_keccak_sponge_put N x := by kernel_rfl
theorem p_keccak_sponge_put_Eok : p_keccak_sponge_put_E.Ok Try.prog := AE.of_ok (all_cons ty3_ok (all_cons ty5_ok (all_cons ty71_ok (all_cons ty72_ok (all_cons ty74_ok all_nil))))) all_nil
theorem p_keccak_sponge_put_ok {g : Ds [.io [.xs (.int .u64) 25, .int .i64, .int .i64], .int .u8] → Option (Rs [.cat [.xs (.int .u64) 25, .int .i64, .int .i64]])} (hg : ∀ x r, g x = some r → ∃ N, p_keccak_sponge_put N x = some r) : SigOk Try.prog 60 ⟨[.io [.xs (.int .u64) 25, .int .i64, .int .i64], .int .u8], [.cat [.xs (.int .u64) 25, .int .i64, .int .i64]], g⟩ :=
  fun_of (E := p_keccak_sponge_put_E) (H := p_keccak_sponge_put_H) (L := fun N => LT.nil) (c := p_keccak_sponge_put_c) (ks := p_keccak_sponge_put_ks) (rs := p_keccak_sponge_put_rs) (F := p_keccak_sponge_put) (p_keccak_sponge_put_Eok) mix Try.func60 (by kernel_rfl) (fun N => OkAll.nil) p_keccak_sponge_put_eq hg
noncomputable abbrev Z_keccak_sponge_put : Sig := ⟨[.io [.xs (.int .u64) 25, .int .i64, .int .i64], .int .u8], [.cat [.xs (.int .u64) 25, .int .i64, .int .i64]], g_keccak_sponge_put⟩
noncomputable abbrev Z_keccak_Permute : Sig := ⟨[.xs (.int .u64) 25], [.xs (.int .u64) 25], g_keccak_Permute⟩
noncomputable def p_keccak_sponge_takes_E : AE := AE.of [(3, ty3), (5, ty5), (24, ty24), (58, ty58), (72, ty72), (74, ty74)] [(60, Z_keccak_sponge_put), (61, Z_keccak_Permute)]
noncomputable def p_keccak_sponge_takes_H : Hints := [(1, [0, 1, 10, 11, 12]), (4, [0, 1, 10, 11, 12, 16, 17, 18]), (2000000, [0, 1]), (2000001, [0, 1, 10, 11, 12]), (2000002, [0, 1, 10, 11, 12]), (2000003, [0, 1, 10, 11, 12, 16, 17, 18]), (3000000, [])]
noncomputable def p_keccak_sponge_takes_c : Code := (Try.f38).body.getD .skip
noncomputable def p_keccak_sponge_takes_l4_S : Shape where
  h := { tmps := [.sc (.ptr 0 0 false), .sc (.int .u8), V, V, V, V, V, V, V, V, .sc (.frs b8), .sc (.int .i64), .sc (.int .i64), V, V, V, .sc (.fr b8), .sc (.int .i64), .sc (.int .i64), V, V, V, V, V, V, V, V, V, V, V, V, V, V, V, V, V, V, V, V, V, V, V, V, V, V, V, V, V, V, V, V, V, V, V, V, V, V, V, V, V, V, V, V, V, V, V, V, V, V, V, V, V, V, V, V, V, V, V], mem := [.live [.xs (.int .u64) (some 25), .one (.int .i64), .one (.int .i64)] (.mt 0)] }
  ks := [.int, .xss, .int, .int, .xs, .int, .int, .xs, .int, .int]
  st := fun x => { tmps := [.one (.sc (.ptr 0 0 none)), .one (.sc (.int .u8 x.1)), U, U, U, U, U, U, U, U, .one (.sc (.fr (.xss b8 x.2.1))), .one (.sc (.int .i64 x.2.2.1)), .one (.sc (.int .i64 x.2.2.2.1)), U, U, U, .one (.sc (.fr (.xs b8 x.2.2.2.2.1))), .one (.sc (.int .i64 x.2.2.2.2.2.1)), .one (.sc (.int .i64 x.2.2.2.2.2.2.1)), U, U, U, U, U, U, U, U, U, U, U, U, U, U, U, U, U, U, U, U, U, U, U, U, U, U, U, U, U, U, U, U, U, U, U, U, U, U, U, U, U, U, U, U, U, U, U, U, U, U, U, U, U, U, U, U, U, U, U], mem := [.live { segs := [.xs (.int .u64) 25 x.2.2.2.2.2.2.2.1, .one (.int .i64 x.2.2.2.2.2.2.2.2.1), .one (.int .i64 x.2.2.2.2.2.2.2.2.2.1)], own := .mt 0 }] }
noncomputable def p_keccak_sponge_takes_l4_F (N : Nat) (β : Type) (x : (Int × List (List Int) × Int × Int × List Int × Int × Int × List Int × Int × Int × Unit)) (kn : (Int × List (List Int) × Int × Int × List Int × Int × Int × List Int × Int × Int × Unit) → Option β) (ke : ((Int × List (List Int) × Int × Int × List Int × Int × Int × Unit)) → Option β) : Option β :=
  if (x.2.2.2.2.2.2.1 < x.2.2.2.2.2.1) then
    if 0 ≤ x.2.2.2.2.2.2.1 then (
    if x.2.2.2.2.2.2.1 < ((List.length x.2.2.2.2.1 : Nat) : Int) then (
    (g_keccak_sponge_put ((x.2.2.2.2.2.2.2.1, x.2.2.2.2.2.2.2.2.1, x.2.2.2.2.2.2.2.2.2.1, ()), (List.getD x.2.2.2.2.1 (x.2.2.2.2.2.2.1.toNat) 0), ())).bind fun r1 => (
    if ((IntKind.i64.wrap (r1.2.2.1 + (1:Int))) = r1.2.1) then
      (g_keccak_Permute (r1.1, ())).bind fun r2 => (
      kn (x.1, x.2.1, x.2.2.1, x.2.2.2.1, x.2.2.2.2.1, x.2.2.2.2.2.1, (IntKind.i64.wrap (x.2.2.2.2.2.2.1 + (1:Int))), r2, r1.2.1, (0:Int), ()))
    else
      kn (x.1, x.2.1, x.2.2.1, x.2.2.2.1, x.2.2.2.2.1, x.2.2.2.2.2.1, (IntKind.i64.wrap (x.2.2.2.2.2.2.1 + (1:Int))), r1.1, r1.2.1, (IntKind.i64.wrap (r1.2.2.1 + (1:Int))), ()))) else none) else none
  else
    ke (x.1, x.2.1, x.2.2.1, x.2.2.2.1, x.2.2.2.2.2.2.2.1, x.2.2.2.2.2.2.2.2.1, x.2.2.2.2.2.2.2.2.2.1, ())
noncomputable def p_keccak_sponge_takes_l4_go : Go' ((Int × List (List Int) × Int × Int × List Int × Int × Int × Unit)) := fun y K => K (.exit 2) { tmps := [.one (.sc (.ptr 0 0 none)), .one (.sc (.int .u8 y.1)), U, U, U, U, U, U, U, U, .one (.sc (.fr (.xss b8 y.2.1))), .one (.sc (.int .i64 y.2.2.1)), .one (.sc (.int .i64 y.2.2.2.1)), U, U, U, U, U, U, U, U, U, U, U, U, U, U, U, U, U, U, U, U, U, U, U, U, U, U, U, U, U, U, U, U, U, U, U, U, U, U, U, U, U, U, U, U, U, U, U, U, U, U, U, U, U, U, U, U, U, U, U, U, U, U, U, U, U], mem := [.live { segs := [.xs (.int .u64) 25 y.2.2.2.2.1, .one (.int .i64 y.2.2.2.2.2.1), .one (.int .i64 y.2.2.2.2.2.2.1)], own := .mt 0 }] }
noncomputable def p_keccak_sponge_takes_l4_L (N : Nat) : LT := upd (LT.nil) 4 (loopE p_keccak_sponge_takes_l4_S N (p_keccak_sponge_takes_l4_F N) p_keccak_sponge_takes_l4_go)
theorem p_keccak_sponge_takes_l4_ok (N : Nat) : OkAll p_keccak_sponge_takes_E p_keccak_sponge_takes_H N (p_keccak_sponge_takes_l4_L N) (subs p_keccak_sponge_takes_c) :=
  addLoop (c := theLoop 4 p_keccak_sponge_takes_c) (OkAll.nil) (by kernel_rfl) (fun x => by kernel_rfl) (fun β x kn ke => by kernel_rfl)
noncomputable def p_keccak_sponge_takes_l1_S : Shape where
  h := { tmps := [.sc (.ptr 0 0 false), .sc (.int .u8), V, V, V, V, V, V, V, V, .sc (.frs b8), .sc (.int .i64), .sc (.int .i64), V, V, V, V, V, V, V, V, V, V, V, V, V, V, V, V, V, V, V, V, V, V, V, V, V, V, V, V, V, V, V, V, V, V, V, V, V, V, V, V, V, V, V, V, V, V, V, V, V, V, V, V, V, V, V, V, V, V, V, V, V, V, V, V, V], mem := [.live [.xs (.int .u64) (some 25), .one (.int .i64), .one (.int .i64)] (.mt 0)] }
  ks := [.int, .xss, .int, .int, .xs, .int, .int]
  st := fun x => { tmps := [.one (.sc (.ptr 0 0 none)), .one (.sc (.int .u8 x.1)), U, U, U, U, U, U, U, U, .one (.sc (.fr (.xss b8 x.2.1))), .one (.sc (.int .i64 x.2.2.1)), .one (.sc (.int .i64 x.2.2.2.1)), U, U, U, U, U, U, U, U, U, U, U, U, U, U, U, U, U, U, U, U, U, U, U, U, U, U, U, U, U, U, U, U, U, U, U, U, U, U, U, U, U, U, U, U, U, U, U, U, U, U, U, U, U, U, U, U, U, U, U, U, U, U, U, U, U], mem := [.live { segs := [.xs (.int .u64) 25 x.2.2.2.2.1, .one (.int .i64 x.2.2.2.2.2.1), .one (.int .i64 x.2.2.2.2.2.2.1)], own := .mt 0 }] }
noncomputable def p_keccak_sponge_takes_l1_F (N : Nat) (β : Type) (x : (Int × List (List Int) × Int × Int × List Int × Int × Int × Unit)) (kn : (Int × List (List Int) × Int × Int × List Int × Int × Int × Unit) → Option β) (ke : ((Int × List Int × Int × Int × Unit)) → Option β) : Option β :=
  if (x.2.2.2.1 < x.2.2.1) then
    if 0 ≤ x.2.2.2.1 then (
    if x.2.2.2.1 < ((List.length x.2.1 : Nat) : Int) then (
    iter (p_keccak_sponge_takes_l4_F N) N (x.1, x.2.1, x.2.2.1, x.2.2.2.1, (List.getD x.2.1 (x.2.2.2.1.toNat) []), ((List.length (List.getD x.2.1 (x.2.2.2.1.toNat) []) : Nat) : Int), (0:Int), x.2.2.2.2.1, x.2.2.2.2.2.1, x.2.2.2.2.2.2.1, ()) fun y3 => (
    kn (y3.1, y3.2.1, y3.2.2.1, (IntKind.i64.wrap (y3.2.2.2.1 + (1:Int))), y3.2.2.2.2.1, y3.2.2.2.2.2.1, y3.2.2.2.2.2.2.1, ()))) else none) else none
  else
    ke (x.1, x.2.2.2.2.1, x.2.2.2.2.2.1, x.2.2.2.2.2.2.1, ())
noncomputable def p_keccak_sponge_takes_l1_go : Go' ((Int × List Int × Int × Int × Unit)) := fun y K => K (.exit 0) { tmps := [.one (.sc (.ptr 0 0 none)), .one (.sc (.int .u8 y.1)), U, U, U, U, U, U, U, U, U, U, U, U, U, U, U, U, U, U, U, U, U, U, U, U, U, U, U, U, U, U, U, U, U, U, U, U, U, U, U, U, U, U, U, U, U, U, U, U, U, U, U, U, U, U, U, U, U, U, U, U, U, U, U, U, U, U, U, U, U, U, U, U, U, U, U, U], mem := [.live { segs := [.xs (.int .u64) 25 y.2.1, .one (.int .i64 y.2.2.1), .one (.int .i64 y.2.2.2.1)], own := .mt 0 }] }
noncomputable def p_keccak_sponge_takes_l1_L (N : Nat) : LT := upd (p_keccak_sponge_takes_l4_L N) 1 (loopE p_keccak_sponge_takes_l1_S N (p_keccak_sponge_takes_l1_F N) p_keccak_sponge_takes_l1_go)
theorem p_keccak_sponge_takes_l1_ok (N : Nat) : OkAll p_keccak_sponge_takes_E p_keccak_sponge_takes_H N (p_keccak_sponge_takes_l1_L N) (subs p_keccak_sponge_takes_c) :=
  addLoop (c := theLoop 1 p_keccak_sponge_takes_c) (p_keccak_sponge_takes_l4_ok N) (by kernel_rfl) (fun x => by kernel_rfl) (fun β x kn ke => by kernel_rfl)
abbrev p_keccak_sponge_takes_ks : List Kd := [.io [.xs (.int .u64) 25, .int .i64, .int .i64], .int .u8, .sls b8]
abbrev p_keccak_sponge_takes_rs : List Kd := [.cat [.xs (.int .u64) 25, .int .i64, .int .i64]]
noncomputable def p_keccak_sponge_takes (N : Nat) (x : (List Int × Int × Int × Unit) × Int × List (List Int) × Unit) : Option ((List Int × Int × Int × Unit)) :=
  iter (p_keccak_sponge_takes_l1_F N) N (x.2.1, x.2.2.1, ((List.length x.2.2.1 : Nat) : Int), (0:Int), x.1.1, x.1.2.1, x.1.2.2.1, ()) fun y4 => (
  (g_keccak_sponge_put ((y4.2.1, y4.2.2.1, y4.2.2.2.1, ()), y4.1, ())).bind fun r5 => (
  (g_keccak_sponge_put ((r5.1, r5.2.1, (IntKind.i64.wrap (r5.2.1 - (1:Int))), ()), (128:Int), ())).bind fun r6 => (
  (g_keccak_Permute (r6.1, ())).bind fun r7 => (
  some (r7, r6.2.1, (0:Int), ())))))
theorem p_keccak_sponge_takes_eq (N : Nat) (x : Ds [.io [.xs (.int .u64) 25, .int .i64, .int .i64], .int .u8, .sls b8]) : funL p_keccak_sponge_takes_E p_keccak_sponge_takes_H (p_keccak_sponge_takes_l1_L N) N Try.f38 p_keccak_sponge_takes_c [.io [.xs (.int .u64) 25, .int .i64, .int .i64], .int .u8, .sls b8] [.cat [.xs (.int .u64) 25, .int .i64, .int .i64]] x = p_keccak_sponge_takes N x := by kernel_rfl
theorem p_keccak_sponge_takes_Eok (e0 : SigOk Try.prog 60 Z_keccak_sponge_put) (e1 : SigOk Try.prog 61 Z_keccak_Permute) : p_keccak_sponge_takes_E.Ok Try.prog := AE.of_ok (all_cons ty3_ok (all_cons ty5_ok (all_cons ty24_ok (all_cons ty58_ok (all_cons ty72_ok (all_cons ty74_ok all_nil)))))) (all_cons ⟨e0, enters_keccak_sponge_put⟩ (all_cons ⟨e1, enters_keccak_Permute⟩ all_nil))
theorem p_keccak_sponge_takes_ok (e0 : SigOk Try.prog 60 Z_keccak_sponge_put) (e1 : SigOk Try.prog 61 Z_keccak_Permute) {g : Ds [.io [.xs (.int .u64) 25, .int .i64, .int .i64], .int .u8, .sls b8] → Option (Rs [.cat [.xs (.int .u64) 25, .int .i64, .int .i64]])} (hg : ∀ x r, g x = some r → ∃ N, p_keccak_sponge_takes N x = some r) : SigOk Try.prog 38 ⟨[.io [.xs (.int .u64) 25, .int .i64, .int .i64], .int .u8, .sls b8], [.cat [.xs (.int .u64) 25, .int .i64, .int .i64]], g⟩ :=
  fun_of (E := p_keccak_sponge_takes_E) (H := p_keccak_sponge_takes_H) (L := fun N => p_keccak_sponge_takes_l1_L N) (c := p_keccak_sponge_takes_c) (ks := p_keccak_sponge_takes_ks) (rs := p_keccak_sponge_takes_rs) (F := p_keccak_sponge_takes) (p_keccak_sponge_takes_Eok e0 e1) mix Try.func38 (by kernel_rfl) (fun N => p_keccak_sponge_takes_l1_ok N) p_keccak_sponge_takes_eq hg
noncomputable def p_keccak_sponge_gives_E : AE := AE.of [(3, ty3), (5, ty5), (24, ty24), (71, ty71), (72, ty72), (74, ty74)] [(61, Z_keccak_Permute)]
noncomputable def p_keccak_sponge_gives_H : Hints := [(1, [0, 1, 6, 7]), (2000000, []), (2000001, [0, 1, 6, 7]), (3000000, [])]
noncomputable def p_keccak_sponge_gives_c : Code := (Try.f39).body.getD .skip
noncomputable def p_keccak_sponge_gives_l1_S : Shape where
  h := { tmps := [.sc (.ptr 0 0 false), .sc (.vec 1 none 1), V, V, V, V, .sc (.int .i64), .sc (.int .i64), V, V, V, V, V, V, V, V, V, V, V, V, V, V, V, V, V, V, V, V, V, V, V, V, V, V, V, V, V, V, V, V, V, V, V, V, V, V, V, V, V, V, V, V, V, V, V, V, V, V, V], mem := [.live [.xs (.int .u64) (some 25), .one (.int .i64), .one (.int .i64)] (.mt 0), .live [.xs b8 none] (.mt 1)] }
  ks := [.nat, .int, .int, .xs, .int, .int, .nat, .xs]
  st := fun x => { tmps := [.one (.sc (.ptr 0 0 none)), .one (.sc (.vec 1 x.1 1)), U, U, U, U, .one (.sc (.int .i64 x.2.1)), .one (.sc (.int .i64 x.2.2.1)), U, U, U, U, U, U, U, U, U, U, U, U, U, U, U, U, U, U, U, U, U, U, U, U, U, U, U, U, U, U, U, U, U, U, U, U, U, U, U, U, U, U, U, U, U, U, U, U, U, U, U], mem := [.live { segs := [.xs (.int .u64) 25 x.2.2.2.1, .one (.int .i64 x.2.2.2.2.1), .one (.int .i64 x.2.2.2.2.2.1)], own := .mt 0 }, .live { segs := [.xs b8 x.2.2.2.2.2.2.1 x.2.2.2.2.2.2.2.1], own := .mt 1 }] }
noncomputable def p_keccak_sponge_gives_l1_F (N : Nat) (β : Type) (x : (Nat × Int × Int × List Int × Int × Int × Nat × List Int × Unit)) (kn : (Nat × Int × Int × List Int × Int × Int × Nat × List Int × Unit) → Option β) (ke : ((List Int × Int × Int × Nat × List Int × Unit)) → Option β) : Option β :=
  if (x.2.2.1 < x.2.1) then
    if (x.2.2.2.2.2.1 = x.2.2.2.2.1) then
      (g_keccak_Permute (x.2.2.2.1, ())).bind fun r1 => (
      if 0 ≤ (IntKind.i64.wrap (Int.tdiv (0:Int) (8:Int))) then (
      if (IntKind.i64.wrap (Int.tdiv (0:Int) (8:Int))) < 25 then (
      if ((IntKind.i64.wrap (Int.tdiv (0:Int) (8:Int))).toNat) < 25 then (
      if (IntKind.i64.wrap ((8:Int) * (Int.tmod (0:Int) (8:Int)))) < 0 then none else (
      if 0 ≤ x.2.2.1 then (
      if x.2.2.1 < ((x.1 : Nat) : Int) then (
      if (x.2.2.1.toNat) < x.2.2.2.2.2.2.1 then (
      kn (x.1, x.2.1, (IntKind.i64.wrap (x.2.2.1 + (1:Int))), r1, x.2.2.2.2.1, (IntKind.i64.wrap ((0:Int) + (1:Int))), x.2.2.2.2.2.2.1, (List.set x.2.2.2.2.2.2.2.1 (x.2.2.1.toNat) (IntKind.u8.wrap (ishr IntKind.u64 (List.getD r1 ((IntKind.i64.wrap (Int.tdiv (0:Int) (8:Int))).toNat) 0) (IntKind.i64.wrap ((8:Int) * (Int.tmod (0:Int) (8:Int))))))), ())) else none) else none) else none)) else none) else none) else none)
    else
      if 0 ≤ (IntKind.i64.wrap (Int.tdiv x.2.2.2.2.2.1 (8:Int))) then (
      if (IntKind.i64.wrap (Int.tdiv x.2.2.2.2.2.1 (8:Int))) < 25 then (
      if ((IntKind.i64.wrap (Int.tdiv x.2.2.2.2.2.1 (8:Int))).toNat) < 25 then (
      if (IntKind.i64.wrap ((8:Int) * (Int.tmod x.2.2.2.2.2.1 (8:Int)))) < 0 then none else (
      if 0 ≤ x.2.2.1 then (
      if x.2.2.1 < ((x.1 : Nat) : Int) then (
      if (x.2.2.1.toNat) < x.2.2.2.2.2.2.1 then (
      kn (x.1, x.2.1, (IntKind.i64.wrap (x.2.2.1 + (1:Int))), x.2.2.2.1, x.2.2.2.2.1, (IntKind.i64.wrap (x.2.2.2.2.2.1 + (1:Int))), x.2.2.2.2.2.2.1, (List.set x.2.2.2.2.2.2.2.1 (x.2.2.1.toNat) (IntKind.u8.wrap (ishr IntKind.u64 (List.getD x.2.2.2.1 ((IntKind.i64.wrap (Int.tdiv x.2.2.2.2.2.1 (8:Int))).toNat) 0) (IntKind.i64.wrap ((8:Int) * (Int.tmod x.2.2.2.2.2.1 (8:Int))))))), ())) else none) else none) else none)) else none) else none) else none
  else
    ke (x.2.2.2.1, x.2.2.2.2.1, x.2.2.2.2.2.1, x.2.2.2.2.2.2.1, x.2.2.2.2.2.2.2.1, ())
noncomputable def p_keccak_sponge_gives_l1_go : Go' ((List Int × Int × Int × Nat × List Int × Unit)) := fun y K => K (.exit 0) { tmps := [U, U, U, U, U, U, U, U, U, U, U, U, U, U, U, U, U, U, U, U, U, U, U, U, U, U, U, U, U, U, U, U, U, U, U, U, U, U, U, U, U, U, U, U, U, U, U, U, U, U, U, U, U, U, U, U, U, U, U], mem := [.live { segs := [.xs (.int .u64) 25 y.1, .one (.int .i64 y.2.1), .one (.int .i64 y.2.2.1)], own := .mt 0 }, .live { segs := [.xs b8 y.2.2.2.1 y.2.2.2.2.1], own := .mt 1 }] }
noncomputable def p_keccak_sponge_gives_l1_L (N : Nat) : LT := upd (LT.nil) 1 (loopE p_keccak_sponge_gives_l1_S N (p_keccak_sponge_gives_l1_F N) p_keccak_sponge_gives_l1_go)
theorem p_keccak_sponge_gives_l1_ok (N : Nat) : OkAll p_keccak_sponge_gives_E p_keccak_sponge_gives_H N (p_keccak_sponge_gives_l1_L N) (subs p_keccak_sponge_gives_c) :=
  addLoop (c := theLoop 1 p_keccak_sponge_gives_c) (OkAll.nil) (by kernel_rfl) (fun x => by kernel_rfl) (fun β x kn ke => by kernel_rfl)
abbrev p_keccak_sponge_gives_ks : List Kd := [.io [.xs (.int .u64) 25, .int .i64, .int .i64], .ios b8]
abbrev p_keccak_sponge_gives_rs : List Kd := [.cat [.xs (.int .u64) 25, .int .i64, .int .i64], .xv b8]
noncomputable def p_keccak_sponge_gives (N : Nat) (x : (List Int × Int × Int × Unit) × List Int × Unit) : Option ((List Int × Int × Int × Unit) × List Int) :=
  iter (p_keccak_sponge_gives_l1_F N) N ((List.length x.2.1), (((List.length x.2.1) : Nat) : Int), (0:Int), x.1.1, x.1.2.1, x.1.2.2.1, (List.length x.2.1), x.2.1, ()) fun y2 => (
  some ((y2.1, y2.2.1, y2.2.2.1, ()), y2.2.2.2.2.1))
theorem p_keccak_sponge_gives_eq (N : Nat) (x : Ds [.io [.xs (.int .u64) 25, .int .i64, .int .i64], .ios b8]) : funL p_keccak_sponge_gives_E p_keccak_sponge_gives_H (p_keccak_sponge_gives_l1_L N) N Try.f39 p_keccak_sponge_gives_c [.io [.xs (.int .u64) 25, .int .i64, .int .i64], .ios b8] [.cat [.xs (.int .u64) 25, .int .i64, .int .i64], .xv b8] x = p_keccak_sponge_gives N x := by kernel_rfl
theorem p_keccak_sponge_gives_Eok (e0 : SigOk Try.prog 61 Z_keccak_Permute) : p_keccak_sponge_gives_E.Ok Try.prog := AE.of_ok (all_cons ty3_ok (all_cons ty5_ok (all_cons ty24_ok (all_cons ty71_ok (all_cons ty72_ok (all_cons ty74_ok all_nil)))))) (all_cons ⟨e0, enters_keccak_Permute⟩ all_nil)
theorem p_keccak_sponge_gives_ok (e0 : SigOk Try.prog 61 Z_keccak_Permute) {g : Ds [.io [.xs (.int .u64) 25, .int .i64, .int .i64], .ios b8] → Option (Rs [.cat [.xs (.int .u64) 25, .int .i64, .int .i64], .xv b8])} (hg : ∀ x r, g x = some r → ∃ N, p_keccak_sponge_gives N x = some r) : SigOk Try.prog 39 ⟨[.io [.xs (.int .u64) 25, .int .i64, .int .i64], .ios b8], [.cat [.xs (.int .u64) 25, .int .i64, .int .i64], .xv b8], g⟩ :=
  fun_of (E := p_keccak_sponge_gives_E) (H := p_keccak_sponge_gives_H) (L := fun N => p_keccak_sponge_gives_l1_L N) (c := p_keccak_sponge_gives_c) (ks := p_keccak_sponge_gives_ks) (rs := p_keccak_sponge_gives_rs) (F := p_keccak_sponge_gives) (p_keccak_sponge_gives_Eok e0) mix Try.func39 (by kernel_rfl) (fun N => p_keccak_sponge_gives_l1_ok N) p_keccak_sponge_gives_eq hg
noncomputable def p_keccak_Xof_none_E : AE := AE.of [(4, ty4), (87, ty87), (104, ty104)] []
noncomputable def p_keccak_Xof_none_H : Hints := [(3000000, [2])]
noncomputable def p_keccak_Xof_none_c : Code := (Try.f69).body.getD .skip
abbrev p_keccak_Xof_none_ks : List Kd := [.io [.bool, .xs (.int .u64) 25, .int .i64, .int .i64, .int .i64]]
abbrev p_keccak_Xof_none_rs : List Kd := [.bool, .cat [.bool, .xs (.int .u64) 25, .int .i64, .int .i64, .int .i64]]
noncomputable def p_keccak_Xof_none (N : Nat) (x : (Bool × List Int × Int × Int × Int × Unit) × Unit) : Option (Bool × (Bool × List Int × Int × Int × Int × Unit)) :=
  some ((decide (¬ (x.1.1 = true))), ((decide (x.1.1 = true)), x.1.2.1, x.1.2.2.1, x.1.2.2.2.1, x.1.2.2.2.2.1, ()))
theorem p_keccak_Xof_none_eq (N : Nat) (x : Ds [.io [.bool, .xs (.int .u64) 25, .int .i64, .int .i64, .int .i64]]) : funL p_keccak_Xof_none_E p_keccak_Xof_none_H (LT.nil) N Try.f69 p_keccak_Xof_none_c [.io [.bool, .xs (.int .u64) 25, .int .i64, .int .i64, .int .i64]] [.bool, .cat [.bool, .xs (.int .u64) 25, .int .i64, .int .i64, .int .i64]] x = p_keccak_Xof_none N x := by kernel_rfl
theorem p_keccak_Xof_none_Eok : p_keccak_Xof_none_E.Ok Try.prog := AE.of_ok (all_cons ty4_ok (all_cons ty87_ok (all_cons ty104_ok all_nil))) all_nil
theorem p_keccak_Xof_none_ok {g : Ds [.io [.bool, .xs (.int .u64) 25, .int .i64, .int .i64, .int .i64]] → Option (Rs [.bool, .cat [.bool, .xs (.int .u64) 25, .int .i64, .int .i64, .int .i64]])} (hg : ∀ x r, g x = some r → ∃ N, p_keccak_Xof_none N x = some r) : SigOk Try.prog 69 ⟨[.io [.bool, .xs (.int .u64) 25, .int .i64, .int .i64, .int .i64]], [.bool, .cat [.bool, .xs (.int .u64) 25, .int .i64, .int .i64, .int .i64]], g⟩ :=
  fun_of (E := p_keccak_Xof_none_E) (H := p_keccak_Xof_none_H) (L := fun N => LT.nil) (c := p_keccak_Xof_none_c) (ks := p_keccak_Xof_none_ks) (rs := p_keccak_Xof_none_rs) (F := p_keccak_Xof_none) (p_keccak_Xof_none_Eok) mix Try.func69 (by kernel_rfl) (fun N => OkAll.nil) p_keccak_Xof_none_eq hg
noncomputable def p_keccak_may_E : AE := AE.of [] []
noncomputable def p_keccak_may_H : Hints := [(2000000, []), (3000000, [2])]
noncomputable def p_keccak_may_c : Code := (Try.f49).body.getD .skip
abbrev p_keccak_may_ks : List Kd := [.int .i64]
abbrev p_keccak_may_rs : List Kd := [.int .i64]
noncomputable def p_keccak_may (N : Nat) (x : Int × Unit) : Option (Int) :=
  if (x.1 < (0:Int)) then
    some (1:Int)
  else
    if (x.1 > (1048576:Int)) then
      some (3:Int)
    else
      some (0:Int)
theorem p_keccak_may_eq (N : Nat) (x : Ds [.int .i64]) : funL p_keccak_may_E p_keccak_may_H (LT.nil) N Try.f49 p_keccak_may_c [.int .i64] [.int .i64] x = p_keccak_may N x := by kernel_rfl
theorem p_keccak_may_Eok : p_keccak_may_E.Ok Try.prog := AE.of_ok all_nil all_nil
theorem p_keccak_may_ok {g : Ds [.int .i64] → Option (Rs [.int .i64])} (hg : ∀ x r, g x = some r → ∃ N, p_keccak_may N x = some r) : SigOk Try.prog 49 ⟨[.int .i64], [.int .i64], g⟩ :=
  fun_of (E := p_keccak_may_E) (H := p_keccak_may_H) (L := fun N => LT.nil) (c := p_keccak_may_c) (ks := p_keccak_may_ks) (rs := p_keccak_may_rs) (F := p_keccak_may) (p_keccak_may_Eok) mix Try.func49 (by kernel_rfl) (fun N => OkAll.nil) p_keccak_may_eq hg
noncomputable abbrev Z_keccak_Xof_none : Sig := ⟨[.io [.bool, .xs (.int .u64) 25, .int .i64, .int .i64, .int .i64]], [.bool, .cat [.bool, .xs (.int .u64) 25, .int .i64, .int .i64, .int .i64]], g_keccak_Xof_none⟩
noncomputable abbrev Z_keccak_may : Sig := ⟨[.int .i64], [.int .i64], g_keccak_may⟩
noncomputable abbrev Z_keccak_sponge_gives : Sig := ⟨[.io [.xs (.int .u64) 25, .int .i64, .int .i64], .ios b8], [.cat [.xs (.int .u64) 25, .int .i64, .int .i64], .xv b8], g_keccak_sponge_gives⟩
noncomputable def p_keccak_Xof_Read_E : AE := AE.of [(3, ty3), (5, ty5), (24, ty24), (74, ty74), (104, ty104)] [(69, Z_keccak_Xof_none), (49, Z_keccak_may), (39, Z_keccak_sponge_gives)]
noncomputable def p_keccak_Xof_Read_H : Hints := [(3000000, [4, 5])]
noncomputable def p_keccak_Xof_Read_c : Code := (Try.f51).body.getD .skip
abbrev p_keccak_Xof_Read_ks : List Kd := [.io [.bool, .xs (.int .u64) 25, .int .i64, .int .i64, .int .i64], .int .i64]
abbrev p_keccak_Xof_Read_rs : List Kd := [.sl b8, .int .i64, .cat [.bool, .xs (.int .u64) 25, .int .i64, .int .i64, .int .i64]]
noncomputable def p_keccak_Xof_Read (N : Nat) (x : (Bool × List Int × Int × Int × Int × Unit) × Int × Unit) : Option (List Int × Int × (Bool × List Int × Int × Int × Int × Unit)) :=
  (g_keccak_Xof_none (((decide (x.1.1 = true)), x.1.2.1, x.1.2.2.1, x.1.2.2.2.1, x.1.2.2.2.2.1, ()), ())).bind fun r1 => (
  if (r1.1 = true) then
    some ([], (2:Int), ((decide (r1.2.1 = true)), r1.2.2.1, r1.2.2.2.1, r1.2.2.2.2.1, r1.2.2.2.2.2.1, ()))
  else
    (g_keccak_may (x.2.1, ())).bind fun r2 => (
    if (r2 ≠ (0:Int)) then
      some ([], r2, ((decide (r1.2.1 = true)), r1.2.2.1, r1.2.2.2.1, r1.2.2.2.2.1, r1.2.2.2.2.2.1, ()))
    else
      if 0 ≤ x.2.1 then (
      if x.2.1 = x.2.1 then (
      if x.2.1 * 1 ≤ 281474976710656 then (
      (g_keccak_sponge_gives ((r1.2.2.1, r1.2.2.2.1, r1.2.2.2.2.1, ()), (List.replicate (x.2.1.toNat) 0), ())).bind fun r3 => (
      if (List.length r3.2) = (x.2.1.toNat) then (
      some (r3.2, (0:Int), ((decide (r1.2.1 = true)), r3.1.1, r3.1.2.1, r3.1.2.2.1, (IntKind.i64.wrap (r1.2.2.2.2.2.1 + x.2.1)), ()))) else none)) else none) else none) else none))
theorem p_keccak_Xof_Read_eq (N : Nat) (x : Ds [.io [.bool, .xs (.int .u64) 25, .int .i64, .int .i64, .int .i64], .int .i64]) : funL p_keccak_Xof_Read_E p_keccak_Xof_Read_H (LT.nil) N Try.f51 p_keccak_Xof_Read_c [.io [.bool, .xs (.int .u64) 25, .int .i64, .int .i64, .int .i64], .int .i64] [.sl b8, .int .i64, .cat [.bool, .xs (.int .u64) 25, .int .i64, .int .i64, .int .i64]] x = p_keccak_Xof_Read N x := by kernel_rfl
theorem p_keccak_Xof_Read_Eok (e0 : SigOk Try.prog 69 Z_keccak_Xof_none) (e1 : SigOk Try.prog 49 Z_keccak_may) (e2 : SigOk Try.prog 39 Z_keccak_sponge_gives) : p_keccak_Xof_Read_E.Ok Try.prog := AE.of_ok (all_cons ty3_ok (all_cons ty5_ok (all_cons ty24_ok (all_cons ty74_ok (all_cons ty104_ok all_nil))))) (all_cons ⟨e0, enters_keccak_Xof_none⟩ (all_cons ⟨e1, enters_keccak_may⟩ (all_cons ⟨e2, enters_keccak_sponge_gives⟩ all_nil)))
theorem p_keccak_Xof_Read_ok (e0 : SigOk Try.prog 69 Z_keccak_Xof_none) (e1 : SigOk Try.prog 49 Z_keccak_may) (e2 : SigOk Try.prog 39 Z_keccak_sponge_gives) {g : Ds [.io [.bool, .xs (.int .u64) 25, .int .i64, .int .i64, .int .i64], .int .i64] → Option (Rs [.sl b8, .int .i64, .cat [.bool, .xs (.int .u64) 25, .int .i64, .int .i64, .int .i64]])} (hg : ∀ x r, g x = some r → ∃ N, p_keccak_Xof_Read N x = some r) : SigOk Try.prog 51 ⟨[.io [.bool, .xs (.int .u64) 25, .int .i64, .int .i64, .int .i64], .int .i64], [.sl b8, .int .i64, .cat [.bool, .xs (.int .u64) 25, .int .i64, .int .i64, .int .i64]], g⟩ :=
  fun_of (E := p_keccak_Xof_Read_E) (H := p_keccak_Xof_Read_H) (L := fun N => LT.nil) (c := p_keccak_Xof_Read_c) (ks := p_keccak_Xof_Read_ks) (rs := p_keccak_Xof_Read_rs) (F := p_keccak_Xof_Read) (p_keccak_Xof_Read_Eok e0 e1 e2) mix Try.func51 (by kernel_rfl) (fun N => OkAll.nil) p_keccak_Xof_Read_eq hg
noncomputable abbrev Z_keccak_sponge_takes : Sig := ⟨[.io [.xs (.int .u64) 25, .int .i64, .int .i64], .int .u8, .sls b8], [.cat [.xs (.int .u64) 25, .int .i64, .int .i64]], g_keccak_sponge_takes⟩
noncomputable def p_keccak_started_E : AE := AE.of [(3, ty3), (4, ty4), (72, ty72), (74, ty74), (104, ty104)] [(38, Z_keccak_sponge_takes)]
noncomputable def p_keccak_started_H : Hints := [(3000000, [4])]
noncomputable def p_keccak_started_c : Code := (Try.f68).body.getD .skip
abbrev p_keccak_started_ks : List Kd := [.int .i64, .sls b8]
abbrev p_keccak_started_rs : List Kd := [.op [.bool, .xs (.int .u64) 25, .int .i64, .int .i64, .int .i64]]
noncomputable def p_keccak_started (N : Nat) (x : Int × List (List Int) × Unit) : Option ((Bool × List Int × Int × Int × Int × Unit)) :=
  (g_keccak_sponge_takes (((List.replicate 25 0), (List.getD (List.set [0] 0 x.1) 0 0), (List.getD [0] 0 0), ()), (31:Int), x.2.1, ())).bind fun r1 => (
  some (((List.getD (List.set [0] 0 (1:Int)) 0 0) != 0), r1.1, r1.2.1, r1.2.2.1, (List.getD [0] 0 0), ()))
theorem p_keccak_started_eq (N : Nat) (x : Ds [.int .i64, .sls b8]) : funL p_keccak_started_E p_keccak_started_H (LT.nil) N Try.f68 p_keccak_started_c [.int .i64, .sls b8] [.op [.bool, .xs (.int .u64) 25, .int .i64, .int .i64, .int .i64]] x = p_keccak_started N x := by kernel_rfl
theorem p_keccak_started_Eok (e0 : SigOk Try.prog 38 Z_keccak_sponge_takes) : p_keccak_started_E.Ok Try.prog := AE.of_ok (all_cons ty3_ok (all_cons ty4_ok (all_cons ty72_ok (all_cons ty74_ok (all_cons ty104_ok all_nil))))) (all_cons ⟨e0, enters_keccak_sponge_takes⟩ all_nil)
theorem p_keccak_started_ok (e0 : SigOk Try.prog 38 Z_keccak_sponge_takes) {g : Ds [.int .i64, .sls b8] → Option (Rs [.op [.bool, .xs (.int .u64) 25, .int .i64, .int .i64, .int .i64]])} (hg : ∀ x r, g x = some r → ∃ N, p_keccak_started N x = some r) : SigOk Try.prog 68 ⟨[.int .i64, .sls b8], [.op [.bool, .xs (.int .u64) 25, .int .i64, .int .i64, .int .i64]], g⟩ :=
  fun_of (E := p_keccak_started_E) (H := p_keccak_started_H) (L := fun N => LT.nil) (c := p_keccak_started_c) (ks := p_keccak_started_ks) (rs := p_keccak_started_rs) (F := p_keccak_started) (p_keccak_started_Eok e0) mix Try.func68 (by kernel_rfl) (fun N => OkAll.nil) p_keccak_started_eq hg
noncomputable abbrev Z_keccak_started : Sig := ⟨[.int .i64, .sls b8], [.op [.bool, .xs (.int .u64) 25, .int .i64, .int .i64, .int .i64]], g_keccak_started⟩
noncomputable def p_keccak_Shake128_E : AE := AE.of [] [(68, Z_keccak_started)]
noncomputable def p_keccak_Shake128_H : Hints := [(3000000, [2])]
noncomputable def p_keccak_Shake128_c : Code := (Try.f50).body.getD .skip
abbrev p_keccak_Shake128_ks : List Kd := [.sls b8]
abbrev p_keccak_Shake128_rs : List Kd := [.op [.bool, .xs (.int .u64) 25, .int .i64, .int .i64, .int .i64]]
noncomputable def p_keccak_Shake128 (N : Nat) (x : List (List Int) × Unit) : Option ((Bool × List Int × Int × Int × Int × Unit)) :=
  (g_keccak_started ((168:Int), x.1, ())).bind fun r1 => (
  some ((decide (r1.1 = true)), r1.2.1, r1.2.2.1, r1.2.2.2.1, r1.2.2.2.2.1, ()))
theorem p_keccak_Shake128_eq (N : Nat) (x : Ds [.sls b8]) : funL p_keccak_Shake128_E p_keccak_Shake128_H (LT.nil) N Try.f50 p_keccak_Shake128_c [.sls b8] [.op [.bool, .xs (.int .u64) 25, .int .i64, .int .i64, .int .i64]] x = p_keccak_Shake128 N x := by kernel_rfl
theorem p_keccak_Shake128_Eok (e0 : SigOk Try.prog 68 Z_keccak_started) : p_keccak_Shake128_E.Ok Try.prog := AE.of_ok all_nil (all_cons ⟨e0, enters_keccak_started⟩ all_nil)
theorem p_keccak_Shake128_ok (e0 : SigOk Try.prog 68 Z_keccak_started) {g : Ds [.sls b8] → Option (Rs [.op [.bool, .xs (.int .u64) 25, .int .i64, .int .i64, .int .i64]])} (hg : ∀ x r, g x = some r → ∃ N, p_keccak_Shake128 N x = some r) : SigOk Try.prog 50 ⟨[.sls b8], [.op [.bool, .xs (.int .u64) 25, .int .i64, .int .i64, .int .i64]], g⟩ :=
  fun_of (E := p_keccak_Shake128_E) (H := p_keccak_Shake128_H) (L := fun N => LT.nil) (c := p_keccak_Shake128_c) (ks := p_keccak_Shake128_ks) (rs := p_keccak_Shake128_rs) (F := p_keccak_Shake128) (p_keccak_Shake128_Eok e0) mix Try.func50 (by kernel_rfl) (fun N => OkAll.nil) p_keccak_Shake128_eq hg
noncomputable def p_keccak_Shake256_E : AE := AE.of [] [(68, Z_keccak_started)]
noncomputable def p_keccak_Shake256_H : Hints := [(3000000, [2])]
noncomputable def p_keccak_Shake256_c : Code := (Try.f52).body.getD .skip
abbrev p_keccak_Shake256_ks : List Kd := [.sls b8]
abbrev p_keccak_Shake256_rs : List Kd := [.op [.bool, .xs (.int .u64) 25, .int .i64, .int .i64, .int .i64]]
noncomputable def p_keccak_Shake256 (N : Nat) (x : List (List Int) × Unit) : Option ((Bool × List Int × Int × Int × Int × Unit)) :=
  (g_keccak_started ((136:Int), x.1, ())).bind fun r1 => (
  some ((decide (r1.1 = true)), r1.2.1, r1.2.2.1, r1.2.2.2.1, r1.2.2.2.2.1, ()))
theorem p_keccak_Shake256_eq (N : Nat) (x : Ds [.sls b8]) : funL p_keccak_Shake256_E p_keccak_Shake256_H (LT.nil) N Try.f52 p_keccak_Shake256_c [.sls b8] [.op [.bool, .xs (.int .u64) 25, .int .i64, .int .i64, .int .i64]] x = p_keccak_Shake256 N x := by kernel_rfl
theorem p_keccak_Shake256_Eok (e0 : SigOk Try.prog 68 Z_keccak_started) : p_keccak_Shake256_E.Ok Try.prog := AE.of_ok all_nil (all_cons ⟨e0, enters_keccak_started⟩ all_nil)
theorem p_keccak_Shake256_ok (e0 : SigOk Try.prog 68 Z_keccak_started) {g : Ds [.sls b8] → Option (Rs [.op [.bool, .xs (.int .u64) 25, .int .i64, .int .i64, .int .i64]])} (hg : ∀ x r, g x = some r → ∃ N, p_keccak_Shake256 N x = some r) : SigOk Try.prog 52 ⟨[.sls b8], [.op [.bool, .xs (.int .u64) 25, .int .i64, .int .i64, .int .i64]], g⟩ :=
  fun_of (E := p_keccak_Shake256_E) (H := p_keccak_Shake256_H) (L := fun N => LT.nil) (c := p_keccak_Shake256_c) (ks := p_keccak_Shake256_ks) (rs := p_keccak_Shake256_rs) (F := p_keccak_Shake256) (p_keccak_Shake256_Eok e0) mix Try.func52 (by kernel_rfl) (fun N => OkAll.nil) p_keccak_Shake256_eq hg
noncomputable def p_ref03_bytes_E : AE := AE.of [(3, ty3), (5, ty5), (24, ty24), (30, ty30), (71, ty71), (72, ty72)] []
noncomputable def p_ref03_bytes_H : Hints := [(3, [2, 5, 8, 9]), (2000000, [5]), (2000001, [2, 5, 8, 9]), (3000000, [4])]
noncomputable def p_ref03_bytes_c : Code := (Try.f54).body.getD .skip
noncomputable def p_ref03_bytes_l3_S : Shape where
  h := { tmps := [V, V, .sc (.ptr 0 0 false), V, V, .sc (.vec 1 none 1), V, V, .sc (.int .i64), .sc (.int .i64), V, V, V, V, V, V, V, V, V, V, V, V, V, V, V, V, V], mem := [.live [.xs (.int .u64) (some 25)] (.own), .live [.xs b8 none] (.own)] }
  ks := [.nat, .int, .int, .xs, .nat, .xs]
  st := fun x => { tmps := [U, U, .one (.sc (.ptr 0 0 none)), U, U, .one (.sc (.vec 1 x.1 1)), U, U, .one (.sc (.int .i64 x.2.1)), .one (.sc (.int .i64 x.2.2.1)), U, U, U, U, U, U, U, U, U, U, U, U, U, U, U, U, U], mem := [.live { segs := [.xs (.int .u64) 25 x.2.2.2.1], own := .own }, .live { segs := [.xs b8 x.2.2.2.2.1 x.2.2.2.2.2.1], own := .own }] }
noncomputable def p_ref03_bytes_l3_F (N : Nat) (β : Type) (x : (Nat × Int × Int × List Int × Nat × List Int × Unit)) (kn : (Nat × Int × Int × List Int × Nat × List Int × Unit) → Option β) (ke : ((Nat × Nat × List Int × Unit)) → Option β) : Option β :=
  if (x.2.2.1 < x.2.1) then
    if 0 ≤ (IntKind.i64.wrap (Int.tdiv x.2.2.1 (8:Int))) then (
    if (IntKind.i64.wrap (Int.tdiv x.2.2.1 (8:Int))) < 25 then (
    if ((IntKind.i64.wrap (Int.tdiv x.2.2.1 (8:Int))).toNat) < 25 then (
    if (IntKind.u64.wrap (IntKind.i64.wrap ((8:Int) * (Int.tmod x.2.2.1 (8:Int))))) < 0 then none else (
    if (x.1 + 1) * 1 ≤ 140737488355328 then (
    kn ((x.1 + 1), x.2.1, (IntKind.i64.wrap (x.2.2.1 + (1:Int))), x.2.2.2.1, (x.2.2.2.2.1 + 1), (x.2.2.2.2.2.1 ++ (List.set (List.replicate 1 0) 0 (IntKind.u8.wrap (ishr IntKind.u64 (List.getD x.2.2.2.1 ((IntKind.i64.wrap (Int.tdiv x.2.2.1 (8:Int))).toNat) 0) (IntKind.u64.wrap (IntKind.i64.wrap ((8:Int) * (Int.tmod x.2.2.1 (8:Int))))))))), ())) else none)) else none) else none) else none
  else
    ke (x.1, x.2.2.2.2.1, x.2.2.2.2.2.1, ())
noncomputable def p_ref03_bytes_l3_go : Go' ((Nat × Nat × List Int × Unit)) := fun y K => K (.exit 0) { tmps := [U, U, U, U, U, .one (.sc (.vec 0 y.1 1)), U, U, U, U, U, U, U, U, U, U, U, U, U, U, U, U, U, U, U, U, U], mem := [.live { segs := [.xs b8 y.2.1 y.2.2.1], own := .own }] }
noncomputable def p_ref03_bytes_l3_L (N : Nat) : LT := upd (LT.nil) 3 (loopE p_ref03_bytes_l3_S N (p_ref03_bytes_l3_F N) p_ref03_bytes_l3_go)
theorem p_ref03_bytes_l3_ok (N : Nat) : OkAll p_ref03_bytes_E p_ref03_bytes_H N (p_ref03_bytes_l3_L N) (subs p_ref03_bytes_c) :=
  addLoop (c := theLoop 3 p_ref03_bytes_c) (OkAll.nil) (by kernel_rfl) (fun x => by kernel_rfl) (fun β x kn ke => by kernel_rfl)
abbrev p_ref03_bytes_ks : List Kd := [.xs (.int .u64) 25, .int .i64]
abbrev p_ref03_bytes_rs : List Kd := [.sl b8]
noncomputable def p_ref03_bytes (N : Nat) (x : List Int × Int × Unit) : Option (List Int) :=
  iter (p_ref03_bytes_l3_F N) N (0, x.2.1, (0:Int), x.1, 0, (List.replicate 0 0), ()) fun y1 => (
  some y1.2.2.1)
theorem p_ref03_bytes_eq (N : Nat) (x : Ds [.xs (.int .u64) 25, .int .i64]) : funL p_ref03_bytes_E p_ref03_bytes_H (p_ref03_bytes_l3_L N) N Try.f54 p_ref03_bytes_c [.xs (.int .u64) 25, .int .i64] [.sl b8] x = p_ref03_bytes N x := by kernel_rfl
theorem p_ref03_bytes_Eok : p_ref03_bytes_E.Ok Try.prog := AE.of_ok (all_cons ty3_ok (all_cons ty5_ok (all_cons ty24_ok (all_cons ty30_ok (all_cons ty71_ok (all_cons ty72_ok all_nil)))))) all_nil
theorem p_ref03_bytes_ok {g : Ds [.xs (.int .u64) 25, .int .i64] → Option (Rs [.sl b8])} (hg : ∀ x r, g x = some r → ∃ N, p_ref03_bytes N x = some r) : SigOk Try.prog 54 ⟨[.xs (.int .u64) 25, .int .i64], [.sl b8], g⟩ :=
  fun_of (E := p_ref03_bytes_E) (H := p_ref03_bytes_H) (L := fun N => p_ref03_bytes_l3_L N) (c := p_ref03_bytes_c) (ks := p_ref03_bytes_ks) (rs := p_ref03_bytes_rs) (F := p_ref03_bytes) (p_ref03_bytes_Eok) mix Try.func54 (by kernel_rfl) (fun N => p_ref03_bytes_l3_ok N) p_ref03_bytes_eq hg
noncomputable abbrev Z_ref01_Join : Sig := ⟨[.sls b8], [.sl b8], g_ref01_Join⟩
noncomputable abbrev Z_ref03_Permute : Sig := ⟨[.xs (.int .u64) 25], [.xs (.int .u64) 25], g_ref03_Permute⟩
noncomputable abbrev Z_ref03_bytes : Sig := ⟨[.xs (.int .u64) 25, .int .i64], [.sl b8], g_ref03_bytes⟩
noncomputable def p_ref03_Sponge_E : AE := AE.of [(3, ty3), (5, ty5), (24, ty24), (30, ty30), (58, ty58), (71, ty71), (72, ty72)] [(17, Z_ref01_Join), (53, Z_ref03_Permute), (54, Z_ref03_bytes)]
noncomputable def p_ref03_Sponge_H : Hints := [(2, [0, 3, 9]), (7, [0, 3, 9, 10, 11]), (10, [0, 3, 9, 10, 11, 42, 43]), (16, [0, 3, 10, 13]), (2000000, [0, 3, 9]), (2000001, [0, 3, 9]), (2000002, [0, 3, 10]), (2000003, [0, 3, 9, 10, 11]), (2000004, [0, 3, 9, 10, 11]), (2000005, [0, 3, 9, 10, 11, 42, 43]), (2000006, [13]), (2000007, [0, 3, 10, 13]), (3000000, [8])]
noncomputable def p_ref03_Sponge_c : Code := (Try.f31).body.getD .skip
noncomputable def p_ref03_Sponge_l2_S : Shape where
  h := { tmps := [.sc (.int .i64), V, V, .sc (.int .i64), V, V, V, V, V, .sc (.vec 0 none 1), V, V, V, V, V, V, V, V, V, V, V, V, V, V, V, V, V, V, V, V, V, V, V, V, V, V, V, V, V, V, V, V, V, V, V, V, V, V, V, V, V, V, V, V, V, V, V, V, V, V, V, V, V, V, V, V, V, V, V, V, V, V, V, V, V, V, V, V, V, V, V, V, V, V, V, V, V, V], mem := [.live [.xs b8 none] (.own)] }
  ks := [.int, .int, .nat, .nat, .xs]
  st := fun x => { tmps := [.one (.sc (.int .i64 x.1)), U, U, .one (.sc (.int .i64 x.2.1)), U, U, U, U, U, .one (.sc (.vec 0 x.2.2.1 1)), U, U, U, U, U, U, U, U, U, U, U, U, U, U, U, U, U, U, U, U, U, U, U, U, U, U, U, U, U, U, U, U, U, U, U, U, U, U, U, U, U, U, U, U, U, U, U, U, U, U, U, U, U, U, U, U, U, U, U, U, U, U, U, U, U, U, U, U, U, U, U, U, U, U, U, U, U, U], mem := [.live { segs := [.xs b8 x.2.2.2.1 x.2.2.2.2.1], own := .own }] }
noncomputable def p_ref03_Sponge_l2_F (N : Nat) (β : Type) (x : (Int × Int × Nat × Nat × List Int × Unit)) (kn : (Int × Int × Nat × Nat × List Int × Unit) → Option β) (ke : ((Int × Int × Nat × Nat × List Int × Unit)) → Option β) : Option β :=
  if x.1 = 0 then none else (
  if ((Int.tmod ((x.2.2.1 : Nat) : Int) x.1) ≠ (0:Int)) then
    if (x.2.2.1 + 1) * 1 ≤ 140737488355328 then (
    kn (x.1, x.2.1, (x.2.2.1 + 1), (x.2.2.2.1 + 1), (x.2.2.2.2.1 ++ (List.set (List.replicate 1 0) 0 (0:Int))), ())) else none
  else
    ke (x.1, x.2.1, x.2.2.1, x.2.2.2.1, x.2.2.2.2.1, ()))
noncomputable def p_ref03_Sponge_l2_go : Go' ((Int × Int × Nat × Nat × List Int × Unit)) := fun y K => K (.exit 0) { tmps := [.one (.sc (.int .i64 y.1)), U, U, .one (.sc (.int .i64 y.2.1)), U, U, U, U, U, .one (.sc (.vec 0 y.2.2.1 1)), U, U, U, U, U, U, U, U, U, U, U, U, U, U, U, U, U, U, U, U, U, U, U, U, U, U, U, U, U, U, U, U, U, U, U, U, U, U, U, U, U, U, U, U, U, U, U, U, U, U, U, U, U, U, U, U, U, U, U, U, U, U, U, U, U, U, U, U, U, U, U, U, U, U, U, U, U, U], mem := [.live { segs := [.xs b8 y.2.2.2.1 y.2.2.2.2.1], own := .own }] }
noncomputable def p_ref03_Sponge_l2_L (N : Nat) : LT := upd (LT.nil) 2 (loopE p_ref03_Sponge_l2_S N (p_ref03_Sponge_l2_F N) p_ref03_Sponge_l2_go)
theorem p_ref03_Sponge_l2_ok (N : Nat) : OkAll p_ref03_Sponge_E p_ref03_Sponge_H N (p_ref03_Sponge_l2_L N) (subs p_ref03_Sponge_c) :=
  addLoop (c := theLoop 2 p_ref03_Sponge_c) (OkAll.nil) (by kernel_rfl) (fun x => by kernel_rfl) (fun β x kn ke => by kernel_rfl)
noncomputable def p_ref03_Sponge_l10_S : Shape where
  h := { tmps := [.sc (.int .i64), V, V, .sc (.int .i64), V, V, V, V, V, .sc (.vec 0 none 1), .sc (.ptr 1 0 false), .sc (.int .i64), V, V, V, V, V, V, V, V, V, V, V, V, V, V, V, V, V, V, V, V, V, V, V, V, V, V, V, V, V, V, .sc (.int .i64), .sc (.int .i64), V, V, V, V, V, V, V, V, V, V, V, V, V, V, V, V, V, V, V, V, V, V, V, V, V, V, V, V, V, V, V, V, V, V, V, V, V, V, V, V, V, V, V, V], mem := [.live [.xs b8 none] (.own), .live [.xs (.int .u64) (some 25)] (.own)] }
  ks := [.int, .int, .nat, .int, .int, .int, .nat, .xs, .xs]
  st := fun x => { tmps := [.one (.sc (.int .i64 x.1)), U, U, .one (.sc (.int .i64 x.2.1)), U, U, U, U, U, .one (.sc (.vec 0 x.2.2.1 1)), .one (.sc (.ptr 1 0 none)), .one (.sc (.int .i64 x.2.2.2.1)), U, U, U, U, U, U, U, U, U, U, U, U, U, U, U, U, U, U, U, U, U, U, U, U, U, U, U, U, U, U, .one (.sc (.int .i64 x.2.2.2.2.1)), .one (.sc (.int .i64 x.2.2.2.2.2.1)), U, U, U, U, U, U, U, U, U, U, U, U, U, U, U, U, U, U, U, U, U, U, U, U, U, U, U, U, U, U, U, U, U, U, U, U, U, U, U, U, U, U, U, U], mem := [.live { segs := [.xs b8 x.2.2.2.2.2.2.1 x.2.2.2.2.2.2.2.1], own := .own }, .live { segs := [.xs (.int .u64) 25 x.2.2.2.2.2.2.2.2.1], own := .own }] }
noncomputable def p_ref03_Sponge_l10_F (N : Nat) (β : Type) (x : (Int × Int × Nat × Int × Int × Int × Nat × List Int × List Int × Unit)) (kn : (Int × Int × Nat × Int × Int × Int × Nat × List Int × List Int × Unit) → Option β) (ke : ((Int × Int × Nat × Int × Nat × List Int × List Int × Unit)) → Option β) : Option β :=
  if (x.2.2.2.2.2.1 < x.2.2.2.2.1) then
    if 0 ≤ (IntKind.i64.wrap (Int.tdiv x.2.2.2.2.2.1 (8:Int))) then (
    if (IntKind.i64.wrap (Int.tdiv x.2.2.2.2.2.1 (8:Int))) < 25 then (
    if ((IntKind.i64.wrap (Int.tdiv x.2.2.2.2.2.1 (8:Int))).toNat) < 25 then (
    if 0 ≤ (IntKind.i64.wrap (x.2.2.2.1 + x.2.2.2.2.2.1)) then (
    if (IntKind.i64.wrap (x.2.2.2.1 + x.2.2.2.2.2.1)) < ((x.2.2.1 : Nat) : Int) then (
    if ((IntKind.i64.wrap (x.2.2.2.1 + x.2.2.2.2.2.1)).toNat) < x.2.2.2.2.2.2.1 then (
    if (IntKind.u64.wrap (IntKind.i64.wrap ((8:Int) * (Int.tmod x.2.2.2.2.2.1 (8:Int))))) < 0 then none else (
    if 0 ≤ (IntKind.i64.wrap (Int.tdiv x.2.2.2.2.2.1 (8:Int))) then (
    if (IntKind.i64.wrap (Int.tdiv x.2.2.2.2.2.1 (8:Int))) < 25 then (
    if ((IntKind.i64.wrap (Int.tdiv x.2.2.2.2.2.1 (8:Int))).toNat) < 25 then (
    kn (x.1, x.2.1, x.2.2.1, x.2.2.2.1, x.2.2.2.2.1, (IntKind.i64.wrap (x.2.2.2.2.2.1 + (1:Int))), x.2.2.2.2.2.2.1, x.2.2.2.2.2.2.2.1, (List.set x.2.2.2.2.2.2.2.2.1 ((IntKind.i64.wrap (Int.tdiv x.2.2.2.2.2.1 (8:Int))).toNat) (ixor IntKind.u64 (List.getD x.2.2.2.2.2.2.2.2.1 ((IntKind.i64.wrap (Int.tdiv x.2.2.2.2.2.1 (8:Int))).toNat) 0) (ishl IntKind.u64 (IntKind.u64.wrap (List.getD x.2.2.2.2.2.2.2.1 ((IntKind.i64.wrap (x.2.2.2.1 + x.2.2.2.2.2.1)).toNat) 0)) (IntKind.u64.wrap (IntKind.i64.wrap ((8:Int) * (Int.tmod x.2.2.2.2.2.1 (8:Int)))))))), ())) else none) else none) else none)) else none) else none) else none) else none) else none) else none
  else
    ke (x.1, x.2.1, x.2.2.1, x.2.2.2.1, x.2.2.2.2.2.2.1, x.2.2.2.2.2.2.2.1, x.2.2.2.2.2.2.2.2.1, ())
noncomputable def p_ref03_Sponge_l10_go : Go' ((Int × Int × Nat × Int × Nat × List Int × List Int × Unit)) := fun y K => K (.exit 4) { tmps := [.one (.sc (.int .i64 y.1)), U, U, .one (.sc (.int .i64 y.2.1)), U, U, U, U, U, .one (.sc (.vec 0 y.2.2.1 1)), .one (.sc (.ptr 1 0 none)), .one (.sc (.int .i64 y.2.2.2.1)), U, U, U, U, U, U, U, U, U, U, U, U, U, U, U, U, U, U, U, U, U, U, U, U, U, U, U, U, U, U, U, U, U, U, U, U, U, U, U, U, U, U, U, U, U, U, U, U, U, U, U, U, U, U, U, U, U, U, U, U, U, U, U, U, U, U, U, U, U, U, U, U, U, U, U, U], mem := [.live { segs := [.xs b8 y.2.2.2.2.1 y.2.2.2.2.2.1], own := .own }, .live { segs := [.xs (.int .u64) 25 y.2.2.2.2.2.2.1], own := .own }] }
noncomputable def p_ref03_Sponge_l10_L (N : Nat) : LT := upd (p_ref03_Sponge_l2_L N) 10 (loopE p_ref03_Sponge_l10_S N (p_ref03_Sponge_l10_F N) p_ref03_Sponge_l10_go)
theorem p_ref03_Sponge_l10_ok (N : Nat) : OkAll p_ref03_Sponge_E p_ref03_Sponge_H N (p_ref03_Sponge_l10_L N) (subs p_ref03_Sponge_c) :=
  addLoop (c := theLoop 10 p_ref03_Sponge_c) (p_ref03_Sponge_l2_ok N) (by kernel_rfl) (fun x => by kernel_rfl) (fun β x kn ke => by kernel_rfl)
noncomputable def p_ref03_Sponge_l7_S : Shape where
  h := { tmps := [.sc (.int .i64), V, V, .sc (.int .i64), V, V, V, V, V, .sc (.vec 0 none 1), .sc (.ptr 1 0 false), .sc (.int .i64), V, V, V, V, V, V, V, V, V, V, V, V, V, V, V, V, V, V, V, V, V, V, V, V, V, V, V, V, V, V, V, V, V, V, V, V, V, V, V, V, V, V, V, V, V, V, V, V, V, V, V, V, V, V, V, V, V, V, V, V, V, V, V, V, V, V, V, V, V, V, V, V, V, V, V, V], mem := [.live [.xs b8 none] (.own), .live [.xs (.int .u64) (some 25)] (.own)] }
  ks := [.int, .int, .nat, .int, .nat, .xs, .xs]
  st := fun x => { tmps := [.one (.sc (.int .i64 x.1)), U, U, .one (.sc (.int .i64 x.2.1)), U, U, U, U, U, .one (.sc (.vec 0 x.2.2.1 1)), .one (.sc (.ptr 1 0 none)), .one (.sc (.int .i64 x.2.2.2.1)), U, U, U, U, U, U, U, U, U, U, U, U, U, U, U, U, U, U, U, U, U, U, U, U, U, U, U, U, U, U, U, U, U, U, U, U, U, U, U, U, U, U, U, U, U, U, U, U, U, U, U, U, U, U, U, U, U, U, U, U, U, U, U, U, U, U, U, U, U, U, U, U, U, U, U, U], mem := [.live { segs := [.xs b8 x.2.2.2.2.1 x.2.2.2.2.2.1], own := .own }, .live { segs := [.xs (.int .u64) 25 x.2.2.2.2.2.2.1], own := .own }] }
noncomputable def p_ref03_Sponge_l7_F (N : Nat) (β : Type) (x : (Int × Int × Nat × Int × Nat × List Int × List Int × Unit)) (kn : (Int × Int × Nat × Int × Nat × List Int × List Int × Unit) → Option β) (ke : ((Int × Int × List Int × Unit)) → Option β) : Option β :=
  if (x.2.2.2.1 < ((x.2.2.1 : Nat) : Int)) then
    iter (p_ref03_Sponge_l10_F N) N (x.1, x.2.1, x.2.2.1, x.2.2.2.1, x.1, (0:Int), x.2.2.2.2.1, x.2.2.2.2.2.1, x.2.2.2.2.2.2.1, ()) fun y3 => (
    (g_ref03_Permute (y3.2.2.2.2.2.2.1, ())).bind fun r4 => (
    kn (y3.1, y3.2.1, y3.2.2.1, (IntKind.i64.wrap (y3.2.2.2.1 + y3.1)), y3.2.2.2.2.1, y3.2.2.2.2.2.1, r4, ())))
  else
    ke (x.1, x.2.1, x.2.2.2.2.2.2.1, ())
noncomputable def p_ref03_Sponge_l7_go : Go' ((Int × Int × List Int × Unit)) := fun y K => K (.exit 2) { tmps := [.one (.sc (.int .i64 y.1)), U, U, .one (.sc (.int .i64 y.2.1)), U, U, U, U, U, U, .one (.sc (.ptr 0 0 none)), U, U, U, U, U, U, U, U, U, U, U, U, U, U, U, U, U, U, U, U, U, U, U, U, U, U, U, U, U, U, U, U, U, U, U, U, U, U, U, U, U, U, U, U, U, U, U, U, U, U, U, U, U, U, U, U, U, U, U, U, U, U, U, U, U, U, U, U, U, U, U, U, U, U, U, U, U], mem := [.live { segs := [.xs (.int .u64) 25 y.2.2.1], own := .own }] }
noncomputable def p_ref03_Sponge_l7_L (N : Nat) : LT := upd (p_ref03_Sponge_l10_L N) 7 (loopE p_ref03_Sponge_l7_S N (p_ref03_Sponge_l7_F N) p_ref03_Sponge_l7_go)
theorem p_ref03_Sponge_l7_ok (N : Nat) : OkAll p_ref03_Sponge_E p_ref03_Sponge_H N (p_ref03_Sponge_l7_L N) (subs p_ref03_Sponge_c) :=
  addLoop (c := theLoop 7 p_ref03_Sponge_c) (p_ref03_Sponge_l10_ok N) (by kernel_rfl) (fun x => by kernel_rfl) (fun β x kn ke => by kernel_rfl)
noncomputable def p_ref03_Sponge_l16_S : Shape where
  h := { tmps := [.sc (.int .i64), V, V, .sc (.int .i64), V, V, V, V, V, V, .sc (.ptr 0 0 false), V, V, .sc (.vec 1 none 1), V, V, V, V, V, V, V, V, V, V, V, V, V, V, V, V, V, V, V, V, V, V, V, V, V, V, V, V, V, V, V, V, V, V, V, V, V, V, V, V, V, V, V, V, V, V, V, V, V, V, V, V, V, V, V, V, V, V, V, V, V, V, V, V, V, V, V, V, V, V, V, V, V, V], mem := [.live [.xs (.int .u64) (some 25)] (.own), .live [.xs b8 none] (.own)] }
  ks := [.int, .int, .nat, .xs, .nat, .xs]
  st := fun x => { tmps := [.one (.sc (.int .i64 x.1)), U, U, .one (.sc (.int .i64 x.2.1)), U, U, U, U, U, U, .one (.sc (.ptr 0 0 none)), U, U, .one (.sc (.vec 1 x.2.2.1 1)), U, U, U, U, U, U, U, U, U, U, U, U, U, U, U, U, U, U, U, U, U, U, U, U, U, U, U, U, U, U, U, U, U, U, U, U, U, U, U, U, U, U, U, U, U, U, U, U, U, U, U, U, U, U, U, U, U, U, U, U, U, U, U, U, U, U, U, U, U, U, U, U, U, U], mem := [.live { segs := [.xs (.int .u64) 25 x.2.2.2.1], own := .own }, .live { segs := [.xs b8 x.2.2.2.2.1 x.2.2.2.2.2.1], own := .own }] }
noncomputable def p_ref03_Sponge_l16_F (N : Nat) (β : Type) (x : (Int × Int × Nat × List Int × Nat × List Int × Unit)) (kn : (Int × Int × Nat × List Int × Nat × List Int × Unit) → Option β) (ke : ((Nat × Nat × List Int × Unit)) → Option β) : Option β :=
  if (((x.2.2.1 : Nat) : Int) < x.2.1) then
    if (((x.2.2.1 : Nat) : Int) > (0:Int)) then
      (g_ref03_Permute (x.2.2.2.1, ())).bind fun r6 => (
      (g_ref03_bytes (r6, (if (IntKind.i64.wrap (x.2.1 - ((x.2.2.1 : Nat) : Int))) < x.1 then (IntKind.i64.wrap (x.2.1 - ((x.2.2.1 : Nat) : Int))) else x.1), ())).bind fun r7 => (
      if (x.2.2.1 + (List.length r7)) * 1 ≤ 140737488355328 then (
      kn (x.1, x.2.1, (x.2.2.1 + (List.length r7)), r6, (x.2.2.2.2.1 + (List.length r7)), (x.2.2.2.2.2.1 ++ r7), ())) else none))
    else
      (g_ref03_bytes (x.2.2.2.1, (if (IntKind.i64.wrap (x.2.1 - ((x.2.2.1 : Nat) : Int))) < x.1 then (IntKind.i64.wrap (x.2.1 - ((x.2.2.1 : Nat) : Int))) else x.1), ())).bind fun r8 => (
      if (x.2.2.1 + (List.length r8)) * 1 ≤ 140737488355328 then (
      kn (x.1, x.2.1, (x.2.2.1 + (List.length r8)), x.2.2.2.1, (x.2.2.2.2.1 + (List.length r8)), (x.2.2.2.2.2.1 ++ r8), ())) else none)
  else
    ke (x.2.2.1, x.2.2.2.2.1, x.2.2.2.2.2.1, ())
noncomputable def p_ref03_Sponge_l16_go : Go' ((Nat × Nat × List Int × Unit)) := fun y K => K (.exit 6) { tmps := [U, U, U, U, U, U, U, U, U, U, U, U, U, .one (.sc (.vec 0 y.1 1)), U, U, U, U, U, U, U, U, U, U, U, U, U, U, U, U, U, U, U, U, U, U, U, U, U, U, U, U, U, U, U, U, U, U, U, U, U, U, U, U, U, U, U, U, U, U, U, U, U, U, U, U, U, U, U, U, U, U, U, U, U, U, U, U, U, U, U, U, U, U, U, U, U, U], mem := [.live { segs := [.xs b8 y.2.1 y.2.2.1], own := .own }] }
noncomputable def p_ref03_Sponge_l16_L (N : Nat) : LT := upd (p_ref03_Sponge_l7_L N) 16 (loopE p_ref03_Sponge_l16_S N (p_ref03_Sponge_l16_F N) p_ref03_Sponge_l16_go)
theorem p_ref03_Sponge_l16_ok (N : Nat) : OkAll p_ref03_Sponge_E p_ref03_Sponge_H N (p_ref03_Sponge_l16_L N) (subs p_ref03_Sponge_c) :=
  addLoop (c := theLoop 16 p_ref03_Sponge_c) (p_ref03_Sponge_l7_ok N) (by kernel_rfl) (fun x => by kernel_rfl) (fun β x kn ke => by kernel_rfl)
abbrev p_ref03_Sponge_ks : List Kd := [.int .i64, .int .u8, .sl b8, .int .i64]
abbrev p_ref03_Sponge_rs : List Kd := [.sl b8]
noncomputable def p_ref03_Sponge (N : Nat) (x : Int × Int × List Int × Int × Unit) : Option (List Int) :=
  (g_ref01_Join ([x.2.2.1, (List.set (List.replicate 1 0) 0 x.2.1)], ())).bind fun r1 => (
  iter (p_ref03_Sponge_l2_F N) N (x.1, x.2.2.2.1, (List.length r1), (List.length r1), r1, ()) fun y2 => (
  if 0 ≤ (IntKind.i64.wrap (((y2.2.2.1 : Nat) : Int) - (1:Int))) then (
  if (IntKind.i64.wrap (((y2.2.2.1 : Nat) : Int) - (1:Int))) < ((y2.2.2.1 : Nat) : Int) then (
  if ((IntKind.i64.wrap (((y2.2.2.1 : Nat) : Int) - (1:Int))).toNat) < y2.2.2.2.1 then (
  if 0 ≤ (IntKind.i64.wrap (((y2.2.2.1 : Nat) : Int) - (1:Int))) then (
  if (IntKind.i64.wrap (((y2.2.2.1 : Nat) : Int) - (1:Int))) < ((y2.2.2.1 : Nat) : Int) then (
  if ((IntKind.i64.wrap (((y2.2.2.1 : Nat) : Int) - (1:Int))).toNat) < y2.2.2.2.1 then (
  iter (p_ref03_Sponge_l7_F N) N (y2.1, y2.2.1, y2.2.2.1, (0:Int), y2.2.2.2.1, (List.set y2.2.2.2.2.1 ((IntKind.i64.wrap (((y2.2.2.1 : Nat) : Int) - (1:Int))).toNat) (ixor IntKind.u8 (List.getD y2.2.2.2.2.1 ((IntKind.i64.wrap (((y2.2.2.1 : Nat) : Int) - (1:Int))).toNat) 0) (128:Int))), (List.replicate 25 0), ()) fun y5 => (
  iter (p_ref03_Sponge_l16_F N) N (y5.1, y5.2.1, 0, y5.2.2.1, 0, (List.replicate 0 0), ()) fun y9 => (
  some y9.2.2.1))) else none) else none) else none) else none) else none) else none))
theorem p_ref03_Sponge_eq (N : Nat) (x : Ds [.int .i64, .int .u8, .sl b8, .int .i64]) : funL p_ref03_Sponge_E p_ref03_Sponge_H (p_ref03_Sponge_l16_L N) N Try.f31 p_ref03_Sponge_c [.int .i64, .int .u8, .sl b8, .int .i64] [.sl b8] x = p_ref03_Sponge N x := by kernel_rfl
theorem p_ref03_Sponge_Eok (e0 : SigOk Try.prog 17 Z_ref01_Join) (e1 : SigOk Try.prog 53 Z_ref03_Permute) (e2 : SigOk Try.prog 54 Z_ref03_bytes) : p_ref03_Sponge_E.Ok Try.prog := AE.of_ok (all_cons ty3_ok (all_cons ty5_ok (all_cons ty24_ok (all_cons ty30_ok (all_cons ty58_ok (all_cons ty71_ok (all_cons ty72_ok all_nil))))))) (all_cons ⟨e0, enters_ref01_Join⟩ (all_cons ⟨e1, enters_ref03_Permute⟩ (all_cons ⟨e2, enters_ref03_bytes⟩ all_nil)))
theorem p_ref03_Sponge_ok (e0 : SigOk Try.prog 17 Z_ref01_Join) (e1 : SigOk Try.prog 53 Z_ref03_Permute) (e2 : SigOk Try.prog 54 Z_ref03_bytes) {g : Ds [.int .i64, .int .u8, .sl b8, .int .i64] → Option (Rs [.sl b8])} (hg : ∀ x r, g x = some r → ∃ N, p_ref03_Sponge N x = some r) : SigOk Try.prog 31 ⟨[.int .i64, .int .u8, .sl b8, .int .i64], [.sl b8], g⟩ :=
  fun_of (E := p_ref03_Sponge_E) (H := p_ref03_Sponge_H) (L := fun N => p_ref03_Sponge_l16_L N) (c := p_ref03_Sponge_c) (ks := p_ref03_Sponge_ks) (rs := p_ref03_Sponge_rs) (F := p_ref03_Sponge) (p_ref03_Sponge_Eok e0 e1 e2) mix Try.func31 (by kernel_rfl) (fun N => p_ref03_Sponge_l16_ok N) p_ref03_Sponge_eq hg
noncomputable abbrev Z_ref03_Sponge : Sig := ⟨[.int .i64, .int .u8, .sl b8, .int .i64], [.sl b8], g_ref03_Sponge⟩
noncomputable def p_ref03_Shake_E : AE := AE.of [] [(31, Z_ref03_Sponge)]
noncomputable def p_ref03_Shake_H : Hints := [(3000000, [6])]
noncomputable def p_ref03_Shake_c : Code := (Try.f16).body.getD .skip
abbrev p_ref03_Shake_ks : List Kd := [.int .i64, .int .i64, .sl b8]
abbrev p_ref03_Shake_rs : List Kd := [.sl b8]
noncomputable def p_ref03_Shake (N : Nat) (x : Int × Int × List Int × Unit) : Option (List Int) :=
  if (x.1 = (128:Int)) then
    (g_ref03_Sponge ((168:Int), (31:Int), x.2.2.1, x.2.1, ())).bind fun r1 => (
    some r1)
  else
    (g_ref03_Sponge ((136:Int), (31:Int), x.2.2.1, x.2.1, ())).bind fun r2 => (
    some r2)
theorem p_ref03_Shake_eq (N : Nat) (x : Ds [.int .i64, .int .i64, .sl b8]) : funL p_ref03_Shake_E p_ref03_Shake_H (LT.nil) N Try.f16 p_ref03_Shake_c [.int .i64, .int .i64, .sl b8] [.sl b8] x = p_ref03_Shake N x := by kernel_rfl
theorem p_ref03_Shake_Eok (e0 : SigOk Try.prog 31 Z_ref03_Sponge) : p_ref03_Shake_E.Ok Try.prog := AE.of_ok all_nil (all_cons ⟨e0, enters_ref03_Sponge⟩ all_nil)
theorem p_ref03_Shake_ok (e0 : SigOk Try.prog 31 Z_ref03_Sponge) {g : Ds [.int .i64, .int .i64, .sl b8] → Option (Rs [.sl b8])} (hg : ∀ x r, g x = some r → ∃ N, p_ref03_Shake N x = some r) : SigOk Try.prog 16 ⟨[.int .i64, .int .i64, .sl b8], [.sl b8], g⟩ :=
  fun_of (E := p_ref03_Shake_E) (H := p_ref03_Shake_H) (L := fun N => LT.nil) (c := p_ref03_Shake_c) (ks := p_ref03_Shake_ks) (rs := p_ref03_Shake_rs) (F := p_ref03_Shake) (p_ref03_Shake_Eok e0) mix Try.func16 (by kernel_rfl) (fun N => OkAll.nil) p_ref03_Shake_eq hg
noncomputable def p_ref01_Join_E : AE := AE.of [(5, ty5), (24, ty24), (58, ty58)] []
noncomputable def p_ref01_Join_H : Hints := [(3, [3, 7, 8, 9]), (2000000, [3]), (2000001, [3, 7, 8, 9]), (3000000, [2])]
noncomputable def p_ref01_Join_c : Code := (Try.f17).body.getD .skip
noncomputable def p_ref01_Join_l3_S : Shape where
  h := { tmps := [V, V, V, .sc (.vec 0 none 1), V, V, V, .sc (.frs b8), .sc (.int .i64), .sc (.int .i64), V, V, V, V, V, V, V, V], mem := [.live [.xs b8 none] (.own)] }
  ks := [.nat, .xss, .int, .int, .nat, .xs]
  st := fun x => { tmps := [U, U, U, .one (.sc (.vec 0 x.1 1)), U, U, U, .one (.sc (.fr (.xss b8 x.2.1))), .one (.sc (.int .i64 x.2.2.1)), .one (.sc (.int .i64 x.2.2.2.1)), U, U, U, U, U, U, U, U], mem := [.live { segs := [.xs b8 x.2.2.2.2.1 x.2.2.2.2.2.1], own := .own }] }
noncomputable def p_ref01_Join_l3_F (N : Nat) (β : Type) (x : (Nat × List (List Int) × Int × Int × Nat × List Int × Unit)) (kn : (Nat × List (List Int) × Int × Int × Nat × List Int × Unit) → Option β) (ke : ((Nat × Nat × List Int × Unit)) → Option β) : Option β :=
  if (x.2.2.2.1 < x.2.2.1) then
    if 0 ≤ x.2.2.2.1 then (
    if x.2.2.2.1 < ((List.length x.2.1 : Nat) : Int) then (
    if (x.1 + (List.length (List.getD x.2.1 (x.2.2.2.1.toNat) []))) * 1 ≤ 140737488355328 then (
    kn ((x.1 + (List.length (List.getD x.2.1 (x.2.2.2.1.toNat) []))), x.2.1, x.2.2.1, (IntKind.i64.wrap (x.2.2.2.1 + (1:Int))), (x.2.2.2.2.1 + (List.length (List.getD x.2.1 (x.2.2.2.1.toNat) []))), (x.2.2.2.2.2.1 ++ (List.getD x.2.1 (x.2.2.2.1.toNat) [])), ())) else none) else none) else none
  else
    ke (x.1, x.2.2.2.2.1, x.2.2.2.2.2.1, ())
noncomputable def p_ref01_Join_l3_go : Go' ((Nat × Nat × List Int × Unit)) := fun y K => K (.exit 0) { tmps := [U, U, U, .one (.sc (.vec 0 y.1 1)), U, U, U, U, U, U, U, U, U, U, U, U, U, U], mem := [.live { segs := [.xs b8 y.2.1 y.2.2.1], own := .own }] }
noncomputable def p_ref01_Join_l3_L (N : Nat) : LT := upd (LT.nil) 3 (loopE p_ref01_Join_l3_S N (p_ref01_Join_l3_F N) p_ref01_Join_l3_go)
theorem p_ref01_Join_l3_ok (N : Nat) : OkAll p_ref01_Join_E p_ref01_Join_H N (p_ref01_Join_l3_L N) (subs p_ref01_Join_c) :=
  addLoop (c := theLoop 3 p_ref01_Join_c) (OkAll.nil) (by kernel_rfl) (fun x => by kernel_rfl) (fun β x kn ke => by kernel_rfl)
abbrev p_ref01_Join_ks : List Kd := [.sls b8]
abbrev p_ref01_Join_rs : List Kd := [.sl b8]
noncomputable def p_ref01_Join (N : Nat) (x : List (List Int) × Unit) : Option (List Int) :=
  iter (p_ref01_Join_l3_F N) N (0, x.1, ((List.length x.1 : Nat) : Int), (0:Int), 0, (List.replicate 0 0), ()) fun y1 => (
  some y1.2.2.1)
theorem p_ref01_Join_eq (N : Nat) (x : Ds [.sls b8]) : funL p_ref01_Join_E p_ref01_Join_H (p_ref01_Join_l3_L N) N Try.f17 p_ref01_Join_c [.sls b8] [.sl b8] x = p_ref01_Join N x := by kernel_rfl
theorem p_ref01_Join_Eok : p_ref01_Join_E.Ok Try.prog := AE.of_ok (all_cons ty5_ok (all_cons ty24_ok (all_cons ty58_ok all_nil))) all_nil
theorem p_ref01_Join_ok {g : Ds [.sls b8] → Option (Rs [.sl b8])} (hg : ∀ x r, g x = some r → ∃ N, p_ref01_Join N x = some r) : SigOk Try.prog 17 ⟨[.sls b8], [.sl b8], g⟩ :=
  fun_of (E := p_ref01_Join_E) (H := p_ref01_Join_H) (L := fun N => p_ref01_Join_l3_L N) (c := p_ref01_Join_c) (ks := p_ref01_Join_ks) (rs := p_ref01_Join_rs) (F := p_ref01_Join) (p_ref01_Join_Eok) mix Try.func17 (by kernel_rfl) (fun N => p_ref01_Join_l3_ok N) p_ref01_Join_eq hg
noncomputable abbrev Z_keccak_Shake128 : Sig := ⟨[.sls b8], [.op [.bool, .xs (.int .u64) 25, .int .i64, .int .i64, .int .i64]], g_keccak_Shake128⟩
noncomputable abbrev Z_keccak_Xof_Read : Sig := ⟨[.io [.bool, .xs (.int .u64) 25, .int .i64, .int .i64, .int .i64], .int .i64], [.sl b8, .int .i64, .cat [.bool, .xs (.int .u64) 25, .int .i64, .int .i64, .int .i64]], g_keccak_Xof_Read⟩
noncomputable abbrev Z_keccak_Shake256 : Sig := ⟨[.sls b8], [.op [.bool, .xs (.int .u64) 25, .int .i64, .int .i64, .int .i64]], g_keccak_Shake256⟩
noncomputable def p_keccak_Shake_E : AE := AE.of [] [(49, Z_keccak_may), (50, Z_keccak_Shake128), (51, Z_keccak_Xof_Read), (52, Z_keccak_Shake256)]
noncomputable def p_keccak_Shake_H : Hints := [(3000000, [6, 7])]
noncomputable def p_keccak_Shake_c : Code := (Try.f29).body.getD .skip
abbrev p_keccak_Shake_ks : List Kd := [.int .i64, .int .i64, .sls b8]
abbrev p_keccak_Shake_rs : List Kd := [.sl b8, .int .i64]
noncomputable def p_keccak_Shake (N : Nat) (x : Int × Int × List (List Int) × Unit) : Option (List Int × Int) :=
  if (x.1 ≠ (128:Int)) then
    if (x.1 ≠ (256:Int)) then
      some ([], (1:Int))
    else
      (g_keccak_may (x.2.1, ())).bind fun r1 => (
      if (r1 ≠ (0:Int)) then
        some ([], r1)
      else
        if (x.1 = (128:Int)) then
          (g_keccak_Shake128 (x.2.2.1, ())).bind fun r2 => (
          (g_keccak_Xof_Read (((decide (r2.1 = true)), r2.2.1, r2.2.2.1, r2.2.2.2.1, r2.2.2.2.2.1, ()), x.2.1, ())).bind fun r3 => (
          some (r3.1, r3.2.1)))
        else
          (g_keccak_Shake256 (x.2.2.1, ())).bind fun r4 => (
          (g_keccak_Xof_Read (((decide (r4.1 = true)), r4.2.1, r4.2.2.1, r4.2.2.2.1, r4.2.2.2.2.1, ()), x.2.1, ())).bind fun r5 => (
          some (r5.1, r5.2.1))))
  else
    (g_keccak_may (x.2.1, ())).bind fun r6 => (
    if (r6 ≠ (0:Int)) then
      some ([], r6)
    else
      if (x.1 = (128:Int)) then
        (g_keccak_Shake128 (x.2.2.1, ())).bind fun r7 => (
        (g_keccak_Xof_Read (((decide (r7.1 = true)), r7.2.1, r7.2.2.1, r7.2.2.2.1, r7.2.2.2.2.1, ()), x.2.1, ())).bind fun r8 => (
        some (r8.1, r8.2.1)))
      else
        (g_keccak_Shake256 (x.2.2.1, ())).bind fun r9 => (
        (g_keccak_Xof_Read (((decide (r9.1 = true)), r9.2.1, r9.2.2.1, r9.2.2.2.1, r9.2.2.2.2.1, ()), x.2.1, ())).bind fun r10 => (
        some (r10.1, r10.2.1))))
theorem p_keccak_Shake_eq (N : Nat) (x : Ds [.int .i64, .int .i64, .sls b8]) : funL p_keccak_Shake_E p_keccak_Shake_H (LT.nil) N Try.f29 p_keccak_Shake_c [.int .i64, .int .i64, .sls b8] [.sl b8, .int .i64] x = p_keccak_Shake N x := by kernel_rfl
theorem p_keccak_Shake_Eok (e0 : SigOk Try.prog 49 Z_keccak_may) (e1 : SigOk Try.prog 50 Z_keccak_Shake128) (e2 : SigOk Try.prog 51 Z_keccak_Xof_Read) (e3 : SigOk Try.prog 52 Z_keccak_Shake256) : p_keccak_Shake_E.Ok Try.prog := AE.of_ok all_nil (all_cons ⟨e0, enters_keccak_may⟩ (all_cons ⟨e1, enters_keccak_Shake128⟩ (all_cons ⟨e2, enters_keccak_Xof_Read⟩ (all_cons ⟨e3, enters_keccak_Shake256⟩ all_nil))))
theorem p_keccak_Shake_ok (e0 : SigOk Try.prog 49 Z_keccak_may) (e1 : SigOk Try.prog 50 Z_keccak_Shake128) (e2 : SigOk Try.prog 51 Z_keccak_Xof_Read) (e3 : SigOk Try.prog 52 Z_keccak_Shake256) {g : Ds [.int .i64, .int .i64, .sls b8] → Option (Rs [.sl b8, .int .i64])} (hg : ∀ x r, g x = some r → ∃ N, p_keccak_Shake N x = some r) : SigOk Try.prog 29 ⟨[.int .i64, .int .i64, .sls b8], [.sl b8, .int .i64], g⟩ :=
  fun_of (E := p_keccak_Shake_E) (H := p_keccak_Shake_H) (L := fun N => LT.nil) (c := p_keccak_Shake_c) (ks := p_keccak_Shake_ks) (rs := p_keccak_Shake_rs) (F := p_keccak_Shake) (p_keccak_Shake_Eok e0 e1 e2 e3) mix Try.func29 (by kernel_rfl) (fun N => OkAll.nil) p_keccak_Shake_eq hg
noncomputable def p_ring_SampleNtt_E : AE := AE.of [(5, ty5), (23, ty23), (24, ty24), (58, ty58), (61, ty61), (108, ty108)] [(50, Z_keccak_Shake128), (51, Z_keccak_Xof_Read)]
noncomputable def p_ring_SampleNtt_H : Hints := [(7, [2, 4, 5, 6, 18, 999999]), (11, [2, 4, 5, 6, 18, 49, 50, 999999]), (2000000, [2]), (2000001, [2, 4, 5, 6, 18]), (2000002, [2, 4, 5, 6, 18]), (2000003, [2, 4, 5, 6, 18, 49, 50]), (3000000, [2, 3])]
noncomputable def p_ring_SampleNtt_c : Code := (Try.f57).body.getD .skip
noncomputable def p_ring_SampleNtt_l11_S : Shape where
  h := { tmps := [V, V, .sc (.ptr 0 0 false), V, .sc (.ptr 1 0 false), .sc (.ptr 2 0 false), .sc (.int .i64), V, V, V, V, V, V, V, V, V, V, V, .sc (.int .i64), V, V, V, V, V, V, V, V, V, V, V, V, V, V, V, V, V, V, V, V, V, V, V, V, V, V, V, V, V, V, .agg [.xs b16 (some 2)], .sc (.int .i64), V, V, V, V, V, V, V, V, V, V, V, V, V, V, V], mem := [.live [.xs b16 (some 256)] (.own), .live [.xs b16 (some 256)] (.own), .live [.one (.bool), .xs (.int .u64) (some 25), .one (.int .i64), .one (.int .i64), .one (.int .i64)] (.own)] }
  ks := [.int, .int, .xs, .int, .xs, .xs, .bool, .xs, .int, .int, .int]
  st := fun x => { tmps := [U, U, .one (.sc (.ptr 0 0 none)), U, .one (.sc (.ptr 1 0 none)), .one (.sc (.ptr 2 0 none)), .one (.sc (.int .i64 x.1)), U, U, U, U, U, U, U, U, U, U, U, .one (.sc (.int .i64 x.2.1)), U, U, U, U, U, U, U, U, U, U, U, U, U, U, U, U, U, U, U, U, U, U, U, U, U, U, U, U, U, U, .one (.agg [.xs b16 2 x.2.2.1]), .one (.sc (.int .i64 x.2.2.2.1)), U, U, U, U, U, U, U, U, U, U, U, U, U, U, U], mem := [.live { segs := [.xs b16 256 x.2.2.2.2.1], own := .own }, .live { segs := [.xs b16 256 x.2.2.2.2.2.1], own := .own }, .live { segs := [.one (.known x.2.2.2.2.2.2.1), .xs (.int .u64) 25 x.2.2.2.2.2.2.2.1, .one (.int .i64 x.2.2.2.2.2.2.2.2.1), .one (.int .i64 x.2.2.2.2.2.2.2.2.2.1), .one (.int .i64 x.2.2.2.2.2.2.2.2.2.2.1)], own := .own }] }
noncomputable def p_ring_SampleNtt_l11_F (N : Nat) (β : Type) (x : (Int × Int × List Int × Int × List Int × List Int × Bool × List Int × Int × Int × Int × Unit)) (kn : (Int × Int × List Int × Int × List Int × List Int × Bool × List Int × Int × Int × Int × Unit) → Option β) (ke : ((Int × List Int × Unit) ⊕ (Int × Int × List Int × List Int × Bool × List Int × Int × Int × Int × Unit)) → Option β) : Option β :=
  if (x.2.2.2.1 < (2:Int)) then
    if 0 ≤ x.2.2.2.1 then (
    if x.2.2.2.1 < 2 then (
    if (x.2.2.2.1.toNat) < 2 then (
    if ((List.getD x.2.2.1 (x.2.2.2.1.toNat) 0) ≥ (3329:Int)) then
      kn (x.1, x.2.1, x.2.2.1, (IntKind.i64.wrap (x.2.2.2.1 + (1:Int))), x.2.2.2.2.1, x.2.2.2.2.2.1, x.2.2.2.2.2.2.1, x.2.2.2.2.2.2.2.1, x.2.2.2.2.2.2.2.2.1, x.2.2.2.2.2.2.2.2.2.1, x.2.2.2.2.2.2.2.2.2.2.1, ())
    else
      if 0 ≤ x.1 then (
      if x.1 < 256 then (
      if (x.1.toNat) < 256 then (
      if ((IntKind.i64.wrap (x.1 + (1:Int))) = (256:Int)) then
        ke (.inl ((0:Int), (List.set x.2.2.2.2.2.1 (x.1.toNat) (List.getD x.2.2.1 (x.2.2.2.1.toNat) 0)), ()))
      else
        kn ((IntKind.i64.wrap (x.1 + (1:Int))), x.2.1, x.2.2.1, (IntKind.i64.wrap (x.2.2.2.1 + (1:Int))), x.2.2.2.2.1, (List.set x.2.2.2.2.2.1 (x.1.toNat) (List.getD x.2.2.1 (x.2.2.2.1.toNat) 0)), x.2.2.2.2.2.2.1, x.2.2.2.2.2.2.2.1, x.2.2.2.2.2.2.2.2.1, x.2.2.2.2.2.2.2.2.2.1, x.2.2.2.2.2.2.2.2.2.2.1, ())) else none) else none) else none) else none) else none) else none
  else
    ke (.inr (x.1, x.2.1, x.2.2.2.2.1, x.2.2.2.2.2.1, x.2.2.2.2.2.2.1, x.2.2.2.2.2.2.2.1, x.2.2.2.2.2.2.2.2.1, x.2.2.2.2.2.2.2.2.2.1, x.2.2.2.2.2.2.2.2.2.2.1, ()))
noncomputable def p_ring_SampleNtt_l11_go : Go' ((Int × List Int × Unit) ⊕ (Int × Int × List Int × List Int × Bool × List Int × Int × Int × Int × Unit)) := fun y K => match y with
  | .inl y => K .ret { tmps := [U, U, .one (.sc (.ptr 0 0 none)), .one (.sc (.int .i64 y.1)), U, U, U, U, U, U, U, U, U, U, U, U, U, U, U, U, U, U, U, U, U, U, U, U, U, U, U, U, U, U, U, U, U, U, U, U, U, U, U, U, U, U, U, U, U, U, U, U, U, U, U, U, U, U, U, U, U, U, U, U, U, U], mem := [.live { segs := [.xs b16 256 y.2.1], own := .own }] }
  | .inr y => K (.exit 2) { tmps := [U, U, .one (.sc (.ptr 0 0 none)), U, .one (.sc (.ptr 1 0 none)), .one (.sc (.ptr 2 0 none)), .one (.sc (.int .i64 y.1)), U, U, U, U, U, U, U, U, U, U, U, .one (.sc (.int .i64 y.2.1)), U, U, U, U, U, U, U, U, U, U, U, U, U, U, U, U, U, U, U, U, U, U, U, U, U, U, U, U, U, U, U, U, U, U, U, U, U, U, U, U, U, U, U, U, U, U, U], mem := [.live { segs := [.xs b16 256 y.2.2.1], own := .own }, .live { segs := [.xs b16 256 y.2.2.2.1], own := .own }, .live { segs := [.one (.known y.2.2.2.2.1), .xs (.int .u64) 25 y.2.2.2.2.2.1, .one (.int .i64 y.2.2.2.2.2.2.1), .one (.int .i64 y.2.2.2.2.2.2.2.1), .one (.int .i64 y.2.2.2.2.2.2.2.2.1)], own := .own }] }
noncomputable def p_ring_SampleNtt_l11_L (N : Nat) : LT := upd (LT.nil) 11 (loopE p_ring_SampleNtt_l11_S N (p_ring_SampleNtt_l11_F N) p_ring_SampleNtt_l11_go)
theorem p_ring_SampleNtt_l11_ok (N : Nat) : OkAll p_ring_SampleNtt_E p_ring_SampleNtt_H N (p_ring_SampleNtt_l11_L N) (subs p_ring_SampleNtt_c) :=
  addLoop (c := theLoop 11 p_ring_SampleNtt_c) (OkAll.nil) (by kernel_rfl) (fun x => by kernel_rfl) (fun β x kn ke => by kernel_rfl)
noncomputable def p_ring_SampleNtt_l7_S : Shape where
  h := { tmps := [V, V, .sc (.ptr 0 0 false), V, .sc (.ptr 1 0 false), .sc (.ptr 2 0 false), .sc (.int .i64), V, V, V, V, V, V, V, V, V, V, V, .sc (.int .i64), V, V, V, V, V, V, V, V, V, V, V, V, V, V, V, V, V, V, V, V, V, V, V, V, V, V, V, V, V, V, V, V, V, V, V, V, V, V, V, V, V, V, V, V, V, V, V], mem := [.live [.xs b16 (some 256)] (.own), .live [.xs b16 (some 256)] (.own), .live [.one (.bool), .xs (.int .u64) (some 25), .one (.int .i64), .one (.int .i64), .one (.int .i64)] (.own)] }
  ks := [.int, .int, .xs, .xs, .bool, .xs, .int, .int, .int]
  st := fun x => { tmps := [U, U, .one (.sc (.ptr 0 0 none)), U, .one (.sc (.ptr 1 0 none)), .one (.sc (.ptr 2 0 none)), .one (.sc (.int .i64 x.1)), U, U, U, U, U, U, U, U, U, U, U, .one (.sc (.int .i64 x.2.1)), U, U, U, U, U, U, U, U, U, U, U, U, U, U, U, U, U, U, U, U, U, U, U, U, U, U, U, U, U, U, U, U, U, U, U, U, U, U, U, U, U, U, U, U, U, U, U], mem := [.live { segs := [.xs b16 256 x.2.2.1], own := .own }, .live { segs := [.xs b16 256 x.2.2.2.1], own := .own }, .live { segs := [.one (.known x.2.2.2.2.1), .xs (.int .u64) 25 x.2.2.2.2.2.1, .one (.int .i64 x.2.2.2.2.2.2.1), .one (.int .i64 x.2.2.2.2.2.2.2.1), .one (.int .i64 x.2.2.2.2.2.2.2.2.1)], own := .own }] }
noncomputable def p_ring_SampleNtt_l7_F (N : Nat) (β : Type) (x : (Int × Int × List Int × List Int × Bool × List Int × Int × Int × Int × Unit)) (kn : (Int × Int × List Int × List Int × Bool × List Int × Int × Int × Int × Unit) → Option β) (ke : ((List Int × Unit) ⊕ (Int × List Int × Unit)) → Option β) : Option β :=
  if (x.2.1 < (1024:Int)) then
    (g_keccak_Xof_Read ((x.2.2.2.2.1, x.2.2.2.2.2.1, x.2.2.2.2.2.2.1, x.2.2.2.2.2.2.2.1, x.2.2.2.2.2.2.2.2.1, ()), (3:Int), ())).bind fun r2 => (
    if (r2.2.1 ≠ (0:Int)) then
      ke (.inl (x.2.2.1, ()))
    else
      if 0 ≤ (0:Int) then (
      if (0:Int) < (((List.length r2.1) : Nat) : Int) then (
      if 0 < (List.length r2.1) then (
      if 0 ≤ (1:Int) then (
      if (1:Int) < (((List.length r2.1) : Nat) : Int) then (
      if 1 < (List.length r2.1) then (
      if 0 ≤ (1:Int) then (
      if (1:Int) < (((List.length r2.1) : Nat) : Int) then (
      if 1 < (List.length r2.1) then (
      if 0 ≤ (2:Int) then (
      if (2:Int) < (((List.length r2.1) : Nat) : Int) then (
      if 2 < (List.length r2.1) then (
      iter (p_ring_SampleNtt_l11_F N) N (x.1, x.2.1, (List.set (List.set (List.replicate 2 0) 0 (ior IntKind.u16 (IntKind.u16.wrap (List.getD r2.1 0 0)) (ishl IntKind.u16 (IntKind.u16.wrap (iand IntKind.u8 (List.getD r2.1 1 0) (15:Int))) (8:Int)))) 1 (ior IntKind.u16 (IntKind.u16.wrap (ishr IntKind.u8 (List.getD r2.1 1 0) (4:Int))) (ishl IntKind.u16 (IntKind.u16.wrap (List.getD r2.1 2 0)) (4:Int)))), (0:Int), x.2.2.1, x.2.2.2.1, (decide (r2.2.2.1 = true)), r2.2.2.2.1, r2.2.2.2.2.1, r2.2.2.2.2.2.1, r2.2.2.2.2.2.2.1, ()) fun y => (match y with
      | .inl y3 => (
        ke (.inr (y3.1, y3.2.1, ())))
      | .inr y4 => (
        kn (y4.1, (IntKind.i64.wrap (y4.2.1 + (1:Int))), y4.2.2.1, y4.2.2.2.1, y4.2.2.2.2.1, y4.2.2.2.2.2.1, y4.2.2.2.2.2.2.1, y4.2.2.2.2.2.2.2.1, y4.2.2.2.2.2.2.2.2.1, ())))) else none) else none) else none) else none) else none) else none) else none) else none) else none) else none) else none) else none)
  else
    ke (.inl (x.2.2.1, ()))
noncomputable def p_ring_SampleNtt_l7_go : Go' ((List Int × Unit) ⊕ (Int × List Int × Unit)) := fun y K => match y with
  | .inl y => K (.exit 0) { tmps := [U, U, .one (.sc (.ptr 0 0 none)), U, U, U, U, U, U, U, U, U, U, U, U, U, U, U, U, U, U, U, U, U, U, U, U, U, U, U, U, U, U, U, U, U, U, U, U, U, U, U, U, U, U, U, U, U, U, U, U, U, U, U, U, U, U, U, U, U, U, U, U, U, U, U], mem := [.live { segs := [.xs b16 256 y.1], own := .own }] }
  | .inr y => K .ret { tmps := [U, U, .one (.sc (.ptr 0 0 none)), .one (.sc (.int .i64 y.1)), U, U, U, U, U, U, U, U, U, U, U, U, U, U, U, U, U, U, U, U, U, U, U, U, U, U, U, U, U, U, U, U, U, U, U, U, U, U, U, U, U, U, U, U, U, U, U, U, U, U, U, U, U, U, U, U, U, U, U, U, U, U], mem := [.live { segs := [.xs b16 256 y.2.1], own := .own }] }
noncomputable def p_ring_SampleNtt_l7_L (N : Nat) : LT := upd (p_ring_SampleNtt_l11_L N) 7 (loopE p_ring_SampleNtt_l7_S N (p_ring_SampleNtt_l7_F N) p_ring_SampleNtt_l7_go)
theorem p_ring_SampleNtt_l7_ok (N : Nat) : OkAll p_ring_SampleNtt_E p_ring_SampleNtt_H N (p_ring_SampleNtt_l7_L N) (subs p_ring_SampleNtt_c) :=
  addLoop (c := theLoop 7 p_ring_SampleNtt_c) (p_ring_SampleNtt_l11_ok N) (by kernel_rfl) (fun x => by kernel_rfl) (fun β x kn ke => by kernel_rfl)
abbrev p_ring_SampleNtt_ks : List Kd := [.sl b8]
abbrev p_ring_SampleNtt_rs : List Kd := [.xs b16 256, .int .i64]
noncomputable def p_ring_SampleNtt (N : Nat) (x : List Int × Unit) : Option (List Int × Int) :=
  if ((((List.length x.1) : Nat) : Int) ≠ (34:Int)) then
    some ((List.replicate 256 0), (1:Int))
  else
    (g_keccak_Shake128 ([x.1], ())).bind fun r1 => (
    iter (p_ring_SampleNtt_l7_F N) N ((0:Int), (0:Int), (List.replicate 256 0), (List.replicate 256 0), (decide (r1.1 = true)), r1.2.1, r1.2.2.1, r1.2.2.2.1, r1.2.2.2.2.1, ()) fun y => (match y with
    | .inl y5 => (
      some ((List.replicate 256 0), (130:Int)))
    | .inr y6 => (
      some (y6.2.1, y6.1))))
theorem p_ring_SampleNtt_eq (N : Nat) (x : Ds [.sl b8]) : funL p_ring_SampleNtt_E p_ring_SampleNtt_H (p_ring_SampleNtt_l7_L N) N Try.f57 p_ring_SampleNtt_c [.sl b8] [.xs b16 256, .int .i64] x = p_ring_SampleNtt N x := by kernel_rfl
theorem p_ring_SampleNtt_Eok (e0 : SigOk Try.prog 50 Z_keccak_Shake128) (e1 : SigOk Try.prog 51 Z_keccak_Xof_Read) : p_ring_SampleNtt_E.Ok Try.prog := AE.of_ok (all_cons ty5_ok (all_cons ty23_ok (all_cons ty24_ok (all_cons ty58_ok (all_cons ty61_ok (all_cons ty108_ok all_nil)))))) (all_cons ⟨e0, enters_keccak_Shake128⟩ (all_cons ⟨e1, enters_keccak_Xof_Read⟩ all_nil))
theorem p_ring_SampleNtt_ok (e0 : SigOk Try.prog 50 Z_keccak_Shake128) (e1 : SigOk Try.prog 51 Z_keccak_Xof_Read) {g : Ds [.sl b8] → Option (Rs [.xs b16 256, .int .i64])} (hg : ∀ x r, g x = some r → ∃ N, p_ring_SampleNtt N x = some r) : SigOk Try.prog 57 ⟨[.sl b8], [.xs b16 256, .int .i64], g⟩ :=
  fun_of (E := p_ring_SampleNtt_E) (H := p_ring_SampleNtt_H) (L := fun N => p_ring_SampleNtt_l7_L N) (c := p_ring_SampleNtt_c) (ks := p_ring_SampleNtt_ks) (rs := p_ring_SampleNtt_rs) (F := p_ring_SampleNtt) (p_ring_SampleNtt_Eok e0 e1) mix Try.func57 (by kernel_rfl) (fun N => p_ring_SampleNtt_l7_ok N) p_ring_SampleNtt_eq hg
end Go.Ax.TryP
set_option linter.unusedVariables false
namespace Go.Ax.TryP
open Go.Proofs
theorem q_keccak_may : ∀ x r, g_keccak_may x = some r → ∃ N, p_keccak_may N x = some r := by
  refine Spec_of (ks := p_keccak_may_ks) (rs := p_keccak_may_rs) fun x hw hq => ⟨0, ?_⟩
  obtain ⟨(n : Int), u⟩ := x
  unfold p_keccak_may fMay
  dsimp only
  split
  · rfl
  · split
    · rfl
    · rfl
theorem q_keccak_Xof_none : ∀ x r, g_keccak_Xof_none x = some r → ∃ N, p_keccak_Xof_none N x = some r := by
  refine Spec_of (ks := p_keccak_Xof_none_ks) (rs := p_keccak_Xof_none_rs) fun x hw hq => ⟨0, ?_⟩
  obtain ⟨⟨(b : Bool), a, r, p, c, u⟩, v⟩ := x
  cases b <;> rfl
theorem tdiv8 {p : Nat} : Int.tdiv (p : Int) 8 = ((p / 8 : Nat) : Int) := by rw [tdiv_pos (by omega)]; omega
theorem tmod8 {p : Nat} : Int.tmod (p : Int) 8 = ((p % 8 : Nat) : Int) := by rw [tmod_pos (by omega)]; omega
theorem q_keccak_sponge_put : ∀ x r, g_keccak_sponge_put x = some r → ∃ N, p_keccak_sponge_put N x = some r := by
  refine Spec_of (ks := p_keccak_sponge_put_ks) (rs := p_keccak_sponge_put_rs) fun x hw hq => ⟨0, ?_⟩
  obtain ⟨⟨(a : List Int), (r : Int), (p : Int), u⟩, (z : Int), v⟩ := x
  have hq : 0 ≤ p ∧ p < 200 := hq
  have hz : 0 ≤ z ∧ z ≤ 255 := okInt_u8.1 hw.2.1
  obtain ⟨m, rfl⟩ : ∃ m : Nat, p = m := ⟨p.toNat, by omega⟩
  unfold p_keccak_sponge_put
  dsimp only
  rw [tdiv8, tmod8, wrap_i64 (by omega) (by omega), wrap_i64 (by omega) (by omega), wrap_u64 (by omega) (by omega), Int.toNat_natCast, if_pos (by omega), if_pos (by omega), if_pos (by omega), if_neg (by omega), if_pos (by omega), if_pos (by omega), if_pos (by omega)]
  rfl
theorem q_ref03_bytes : ∀ x r, g_ref03_bytes x = some r → ∃ N, p_ref03_bytes N x = some r := by
  refine Spec_of (ks := p_ref03_bytes_ks) (rs := p_ref03_bytes_rs) fun x hw hq => ⟨201, ?_⟩
  obtain ⟨(a : List Int), (n : Int), u⟩ := x
  have hq : 0 ≤ n ∧ n ≤ 200 := hq
  obtain ⟨m, rfl⟩ : ∃ m : Nat, n = m := ⟨n.toNat, by omega⟩
  unfold p_ref03_bytes
  refine (iter_from (F := p_ref03_bytes_l3_F 201) (s := fun i => (i, (m : Int), (i : Int), a, i, (List.range i).map (byteOf a), ())) (y := (m, m, (List.range m).map (byteOf a), ())) m rfl ?_ ?_ 201 (by omega)).trans ?_
  · intro i hi kn
    unfold p_ref03_bytes_l3_F
    dsimp only
    rw [if_pos (by omega), tdiv8, tmod8, wrap_i64 (by omega) (by omega), wrap_i64 (by omega) (by omega), wrap_u64 (by omega) (by omega), wrap_i64 (by omega) (by omega), Int.toNat_natCast, if_pos (by omega), if_pos (by omega), if_pos (by omega), if_neg (by omega), if_pos (by omega)]
    rw [List.range_succ, List.map_append]
    rfl
  · intro kn
    unfold p_ref03_bytes_l3_F
    dsimp only
    rw [if_neg (by omega)]
  · rfl
theorem wf_sp {a : List Int} {r p : Int} : csWf [.xs (.int .u64) 25, .int .i64, .int .i64] (a, r, p, ()) ↔ u64s 25 a ∧ (-9223372036854775808 ≤ r ∧ r ≤ 9223372036854775807) ∧ (-9223372036854775808 ≤ p ∧ p ≤ 9223372036854775807) := by
  have h1 : FK.wf (.xs (.int .u64) 25) a ↔ u64s 25 a := by simp [FK.wf, u64s, rows, okInt_u64]
  have h2 : FK.wf (.int .i64) r ↔ _ := okInt_i64
  have h3 : FK.wf (.int .i64) p ↔ _ := okInt_i64
  simp only [csWf, h1, h2, h3, and_true]
theorem perms_u {a : List Int} (h : u64s 25 a) : ∀ n : Nat, u64s 25 (perms n a)
  | 0 => h
  | n + 1 => permS_u (perms_u h n)
theorem stOf_full {rate : Nat} (hr : 0 < rate) (a : List Int) {p : Nat} (h : (stOf rate a p).2 = rate) : p / rate = (p - 1) / rate + 1 ∧ p % rate = 0 := by
  unfold stOf at h
  dsimp only at h
  have e := Nat.div_add_mod (p - 1) rate
  have e1 := Nat.mod_lt (p - 1) hr
  generalize hq : (p - 1) / rate = q at *
  rw [Nat.mul_comm] at e
  have hp : p = (q + 1) * rate := by rw [Nat.add_mul, Nat.one_mul]; omega
  rw [hp]
  exact ⟨Nat.mul_div_cancel _ hr, Nat.mul_mod_left _ _⟩
theorem stOf_part {rate : Nat} (hr : 0 < rate) (a : List Int) {p : Nat} (h : (stOf rate a p).2 ≠ rate) : p / rate = (p - 1) / rate ∧ p % rate = (stOf rate a p).2 ∧ (stOf rate a p).2 < rate := by
  unfold stOf at *
  dsimp only at *
  have e := Nat.div_add_mod (p - 1) rate
  have e1 := Nat.mod_lt (p - 1) hr
  generalize hq : (p - 1) / rate = q at *
  rw [Nat.mul_comm] at e
  have h1 : q * rate ≤ p := by omega
  have h2 : p - q * rate < rate := by omega
  have hp : p = (p - q * rate) + rate * q := by rw [Nat.mul_comm rate]; omega
  refine ⟨?_, ?_, h2⟩
  · rw [hp, Nat.add_mul_div_left _ _ hr, Nat.div_eq_of_lt h2]; omega
  · conv => lhs; rw [hp, Nat.add_mul_mod_self_left]
    exact Nat.mod_eq_of_lt h2
theorem stOf_next {rate : Nat} (hr : 0 < rate) (a : List Int) (p : Nat) : stOf rate a (p + 1) = (perms (p / rate) a, p % rate + 1) := by
  unfold stOf
  have e := Nat.div_add_mod p rate
  rw [Nat.mul_comm] at e
  rw [Nat.add_sub_cancel]
  congr 1
  omega
theorem stOf_small {rate : Nat} (a : List Int) {p : Nat} (hr : 0 < rate) (hp : p ≤ rate) : stOf rate a p = (a, p) := by
  unfold stOf
  rw [Nat.div_eq_of_lt (by omega)]
  simp [perms]
theorem gives_step {rate n : Nat} {a out : List Int} {p i : Nat} (ha : u64s 25 a) (hr : 8 ≤ rate ∧ rate ≤ 200) (hn : out.length = n) (hb : n ≤ maxLen) (hi : i < n) {β : Type} (N : Nat) (kn : _ → Option β) (k : _ → Option β) :
    p_keccak_sponge_gives_l1_F N β (n, (n : Int), (i : Int), (stOf rate a (p + i)).1, (rate : Int), ((stOf rate a (p + i)).2 : Int), n, part (fun k => outB rate a (p + k)) i out, ()) kn k
    = kn (n, (n : Int), ((i + 1 : Nat) : Int), (stOf rate a (p + (i + 1))).1, (rate : Int), ((stOf rate a (p + (i + 1))).2 : Int), n, part (fun k => outB rate a (p + k)) (i + 1) out, ()) := by
  have hm : maxLen ≤ 9223372036854775807 := by decide
  have h0 : 0 < rate := by omega
  have hu : u64s 25 (perms ((p + i - 1) / rate) a) := perms_u ha _
  have hnext := stOf_next h0 a (p + i)
  have hset : (part (fun k => outB rate a (p + k)) i out).set i (outB rate a (p + i)) = part (fun k => outB rate a (p + k)) (i + 1) out := part_set (h := fun k => outB rate a (p + k)) (by omega)
  unfold p_keccak_sponge_gives_l1_F
  dsimp only
  rw [if_pos (by omega)]
  by_cases h : (stOf rate a (p + i)).2 = rate
  · obtain ⟨h1, h2⟩ := stOf_full h0 a h
    rw [if_pos (by omega)]
    have e : g_keccak_Permute ((stOf rate a (p + i)).1, ()) = some (perms ((p + i) / rate) a) := by
      rw [h1]; exact at_perm hu
    rw [e, Option.bind_some]
    have c1 : IntKind.i64.wrap (Int.tdiv 0 8) = 0 := by decide
    have c2 : IntKind.i64.wrap (8 * Int.tmod 0 8) = 0 := by decide
    rw [c1, c2, if_pos (by omega), if_pos (by omega), if_pos (by decide), if_neg (by omega), if_pos (by omega), if_pos (by omega), if_pos (by omega), Int.toNat_natCast, wrap_i64 (by omega) (by omega)]
    rw [show p + (i + 1) = p + i + 1 by omega, hnext, h2]
    have c3 : IntKind.u8.wrap (ishr IntKind.u64 (List.getD (perms ((p + i) / rate) a) (Int.toNat 0) 0) 0) = outB rate a (p + i) := by
      unfold outB; rw [h2]; rfl
    rw [c3, hset]
    rfl
  · obtain ⟨h1, h2, h3⟩ := stOf_part h0 a h
    rw [if_neg (by omega)]
    have e : (stOf rate a (p + i)).1 = perms ((p + i) / rate) a := by rw [h1]; rfl
    rw [e, ← h2, tdiv8, tmod8, wrap_i64 (by omega) (by omega), wrap_i64 (x := 8 * (((p + i) % rate % 8 : Nat) : Int)) (by omega) (by omega), Int.toNat_natCast, if_pos (by omega), if_pos (by omega), if_pos (by omega), if_neg (by omega), if_pos (by omega), if_pos (by omega), if_pos (by omega), Int.toNat_natCast, wrap_i64 (by omega) (by omega), wrap_i64 (by omega) (by omega)]
    rw [show p + (i + 1) = p + i + 1 by omega, hnext]
    have c3 : IntKind.u8.wrap (ishr IntKind.u64 (List.getD (perms ((p + i) / rate) a) ((p + i) % rate / 8) 0) (8 * (((p + i) % rate % 8 : Nat) : Int))) = outB rate a (p + i) := rfl
    rw [c3, hset]
    rfl
theorem q_keccak_sponge_gives : ∀ x r, g_keccak_sponge_gives x = some r → ∃ N, p_keccak_sponge_gives N x = some r := by
  refine Spec_of (ks := p_keccak_sponge_gives_ks) (rs := p_keccak_sponge_gives_rs) fun x hw hq => ?_
  obtain ⟨⟨(a : List Int), (r : Int), (p : Int), u⟩, (out : List Int), v⟩ := x
  obtain ⟨ha, _, _⟩ := wf_sp.1 hw.1
  have hl : out.length ≤ maxLen := hw.2.1.1
  obtain ⟨hr, hp0, hp1⟩ : (8 ≤ r ∧ r ≤ 200) ∧ 0 ≤ p ∧ p ≤ r := hq
  obtain ⟨rate, rfl⟩ : ∃ m : Nat, r = m := ⟨r.toNat, by omega⟩
  obtain ⟨q, rfl⟩ : ∃ m : Nat, p = m := ⟨p.toNat, by omega⟩
  generalize hn : out.length = n at *
  refine ⟨n + 1, ?_⟩
  unfold p_keccak_sponge_gives
  dsimp only
  rw [hn]
  refine (iter_from (F := p_keccak_sponge_gives_l1_F (n + 1)) (s := fun i => (n, (n : Int), (i : Int), (stOf rate a (q + i)).1, (rate : Int), ((stOf rate a (q + i)).2 : Int), n, part (fun k => outB rate a (q + k)) i out, ()))
    (y := ((stOf rate a (q + n)).1, (rate : Int), ((stOf rate a (q + n)).2 : Int), n, (List.range n).map (fun k => outB rate a (q + k)), ())) n ?_ ?_ ?_ (n + 1) (by omega)).trans ?_
  · rw [Nat.add_zero, stOf_small a (by omega) (by omega), part_zero]
    rfl
  · exact fun i hi kn => gives_step ha (by omega) hn hl hi _ kn _
  · intro kn
    unfold p_keccak_sponge_gives_l1_F
    dsimp only
    rw [if_neg (by omega), part_all hn]
  · dsimp only
    rw [Int.toNat_natCast, Int.toNat_natCast]
theorem putS_u {a : List Int} (h : u64s 25 a) (p : Nat) (x : Int) : u64s 25 (putS a p x) := rows.set h (x64_b _ _)
def okSp (rate : Nat) (s : List Int × Nat) : Prop := u64s 25 s.1 ∧ s.2 < rate
theorem stepT_ok {rate : Nat} {s : List Int × Nat} (h : okSp rate s) (x : Int) : okSp rate (stepT rate s x) := by
  have h1 := h.2
  unfold stepT
  split
  · exact ⟨permS_u (putS_u h.1 _ _), by show 0 < rate; omega⟩
  · exact ⟨putS_u h.1 _ _, by show s.2 + 1 < rate; omega⟩
theorem feed_ok {rate : Nat} : ∀ {s : List Int × Nat} (l : List Int), okSp rate s → okSp rate (feed rate s l)
  | s, [], h => h
  | s, x :: l, h => feed_ok l (stepT_ok h x)
theorem feed_append (rate : Nat) (s : List Int × Nat) (l m : List Int) : feed rate s (l ++ m) = feed rate (feed rate s l) m := by simp [feed, List.foldl_append]
theorem feed_one (rate : Nat) (s : List Int × Nat) (x : Int) : feed rate s [x] = stepT rate s x := rfl
theorem at_put {a : List Int} {r : Int} {p : Nat} {x : Int} (h : u64s 25 a) (hr : okRate r) (hp : p < 200) (hx : 0 ≤ x ∧ x ≤ 255) : g_keccak_sponge_put ((a, r, (p : Int), ()), x, ()) = some (putS a p x, r, (p : Int), ()) := by
  have hr' : 8 ≤ r ∧ r ≤ 200 := hr
  have := Spec_at (ks := p_keccak_sponge_put_ks) (rs := p_keccak_sponge_put_rs) (x := ((a, r, (p : Int), ()), x, ())) (Q := fun x => 0 ≤ x.1.2.2.1 ∧ x.1.2.2.1 < 200) (f := fun x => (putS x.1.1 x.1.2.2.1.toNat x.2.1, x.1.2.1, x.1.2.2.1, ()))
    ⟨wf_sp.2 ⟨h, by omega, by omega⟩, okInt_u8.2 hx, trivial⟩ ⟨by show (0 : Int) ≤ p; omega, by show (p : Int) < 200; omega⟩
  exact this
theorem take_step {rate : Nat} {e np i : Int} {parts : List (List Int)} {l : List Int} {s : List Int × Nat} {j : Nat} (hs : okSp rate s) (hr : 8 ≤ rate ∧ rate ≤ 200) (hl : ∀ z ∈ l, 0 ≤ z ∧ z ≤ 255) (hm : l.length ≤ maxLen) (hj : j < l.length)
    {β : Type} (N : Nat) (kn : _ → Option β) (k : _ → Option β) :
    p_keccak_sponge_takes_l4_F N β (e, parts, np, i, l, (l.length : Int), (j : Int), (feed rate s (l.take j)).1, (rate : Int), ((feed rate s (l.take j)).2 : Int), ()) kn k
    = kn (e, parts, np, i, l, (l.length : Int), ((j + 1 : Nat) : Int), (feed rate s (l.take (j + 1))).1, (rate : Int), ((feed rate s (l.take (j + 1))).2 : Int), ()) := by
  have hm' : maxLen ≤ 9223372036854775807 := by decide
  have hS := feed_ok (l.take j) hs
  have e1 : feed rate s (l.take (j + 1)) = stepT rate (feed rate s (l.take j)) (l.getD j 0) := by
    rw [List.take_succ_eq_append_getElem hj, feed_append, feed_one, List.getD_eq_getElem?_getD, List.getElem?_eq_getElem hj]; rfl
  have hz := hl _ (getD_mem hj)
  generalize feed rate s (l.take j) = S at *
  have h2 := hS.2
  unfold p_keccak_sponge_takes_l4_F
  dsimp only
  rw [if_pos (by omega), if_pos (by omega), if_pos (by omega), Int.toNat_natCast, at_put hS.1 ⟨by omega, by omega⟩ (by omega) hz, Option.bind_some]
  dsimp only
  rw [e1, wrap_i64 (x := (S.2 : Int) + 1) (by omega) (by omega), wrap_i64 (by omega) (by omega)]
  unfold stepT
  by_cases h : S.2 + 1 = rate
  · rw [if_pos (by omega), at_perm (putS_u hS.1 _ _), Option.bind_some, if_pos h]
    rfl
  · rw [if_neg (by omega), if_neg h]
    rfl
theorem takes_all {rate : Nat} {e np i : Int} {parts : List (List Int)} {l : List Int} {s : List Int × Nat} (hs : okSp rate s) (hr : 8 ≤ rate ∧ rate ≤ 200) (hl : ∀ z ∈ l, 0 ≤ z ∧ z ≤ 255) (hm : l.length ≤ maxLen)
    {β : Type} {N : Nat} (hN : l.length < N) {k : _ → Option β} :
    iter (p_keccak_sponge_takes_l4_F N) N (e, parts, np, i, l, (l.length : Int), (0 : Int), s.1, (rate : Int), (s.2 : Int), ()) k = k (e, parts, np, i, (feed rate s l).1, (rate : Int), ((feed rate s l).2 : Int), ()) := by
  refine iter_from (F := p_keccak_sponge_takes_l4_F N) (s := fun j => (e, parts, np, i, l, (l.length : Int), (j : Int), (feed rate s (l.take j)).1, (rate : Int), ((feed rate s (l.take j)).2 : Int), ()))
    (y := (e, parts, np, i, (feed rate s l).1, (rate : Int), ((feed rate s l).2 : Int), ())) l.length ?_ ?_ ?_ N hN
  · rfl
  · exact fun j hj kn => take_step hs hr hl hm hj N kn k
  · intro kn
    unfold p_keccak_sponge_takes_l4_F
    dsimp only
    rw [if_neg (by omega), List.take_length]
def partsOk (l : List (List Int)) : Prop := l.length ≤ maxLen ∧ ∀ zs ∈ l, zs.length ≤ maxLen ∧ ∀ z ∈ zs, 0 ≤ z ∧ z ≤ 255
theorem wf_parts {l : List (List Int)} : Kd.wf (.sls (.int .u8)) l ↔ partsOk l := by simp [Kd.wf, partsOk, okInt_u8]
theorem mem_len {zs : List Int} : ∀ {l : List (List Int)}, zs ∈ l → zs.length ≤ l.flatten.length
  | x :: l, h => by
    rcases List.mem_cons.1 h with rfl | h
    · simp
    · have := mem_len h; simp only [List.flatten_cons, List.length_append]; omega
theorem parts_step {rate : Nat} {e : Int} {parts : List (List Int)} {s : List Int × Nat} {i : Nat} (hs : okSp rate s) (hr : 8 ≤ rate ∧ rate ≤ 200) (hp : partsOk parts) (hi : i < parts.length)
    {β : Type} {N : Nat} (hN : parts.flatten.length < N) (kn : _ → Option β) (k : _ → Option β) :
    p_keccak_sponge_takes_l1_F N β (e, parts, (parts.length : Int), (i : Int), (feed rate s (parts.take i).flatten).1, (rate : Int), ((feed rate s (parts.take i).flatten).2 : Int), ()) kn k
    = kn (e, parts, (parts.length : Int), ((i + 1 : Nat) : Int), (feed rate s (parts.take (i + 1)).flatten).1, (rate : Int), ((feed rate s (parts.take (i + 1)).flatten).2 : Int), ()) := by
  have hm' : maxLen ≤ 9223372036854775807 := by decide
  have hl := hp.1
  have hS := feed_ok (parts.take i).flatten hs
  have hmem : parts.getD i [] ∈ parts := by
    rw [List.getD_eq_getElem?_getD, List.getElem?_eq_getElem hi]; simp
  have e1 : feed rate s (parts.take (i + 1)).flatten = feed rate (feed rate s (parts.take i).flatten) (parts.getD i []) := by
    rw [List.take_succ_eq_append_getElem hi, List.flatten_append, feed_append, List.getD_eq_getElem?_getD, List.getElem?_eq_getElem hi]
    simp
  have hlen := mem_len hmem
  obtain ⟨q1, q2⟩ := hp.2 _ hmem
  rw [e1]
  generalize feed rate s (parts.take i).flatten = S at *
  unfold p_keccak_sponge_takes_l1_F
  dsimp only
  rw [if_pos (by omega), if_pos (by omega), if_pos (by omega), Int.toNat_natCast]
  rw [takes_all hS hr q2 q1 (by omega)]
  dsimp only
  rw [wrap_i64 (by omega) (by omega)]
  rfl
theorem q_keccak_sponge_takes : ∀ x r, g_keccak_sponge_takes x = some r → ∃ N, p_keccak_sponge_takes N x = some r := by
  refine Spec_of (ks := p_keccak_sponge_takes_ks) (rs := p_keccak_sponge_takes_rs) fun x hw hq => ?_
  obtain ⟨⟨(a : List Int), (r : Int), (p : Int), u⟩, (e : Int), (parts : List (List Int)), v⟩ := x
  obtain ⟨ha, _, _⟩ := wf_sp.1 hw.1
  have he : 0 ≤ e ∧ e ≤ 255 := okInt_u8.1 hw.2.1
  have hp : partsOk parts := wf_parts.1 hw.2.2.1
  obtain ⟨hr, hp0, hp1⟩ : (8 ≤ r ∧ r ≤ 200) ∧ 0 ≤ p ∧ p < r := hq
  obtain ⟨rate, rfl⟩ : ∃ m : Nat, r = m := ⟨r.toNat, by omega⟩
  obtain ⟨q, rfl⟩ : ∃ m : Nat, p = m := ⟨p.toNat, by omega⟩
  have hs : okSp rate (a, q) := ⟨ha, by show q < rate; omega⟩
  have hr' : 8 ≤ rate ∧ rate ≤ 200 := by omega
  refine ⟨parts.length + parts.flatten.length + 1, ?_⟩
  unfold p_keccak_sponge_takes
  dsimp only
  refine (iter_from (F := p_keccak_sponge_takes_l1_F (parts.length + parts.flatten.length + 1)) (s := fun i => (e, parts, (parts.length : Int), (i : Int), (feed rate (a, q) (parts.take i).flatten).1, (rate : Int), ((feed rate (a, q) (parts.take i).flatten).2 : Int), ()))
    (y := (e, (feed rate (a, q) parts.flatten).1, (rate : Int), ((feed rate (a, q) parts.flatten).2 : Int), ())) parts.length ?_ ?_ ?_ _ (by omega)).trans ?_
  · rfl
  · exact fun i hi kn => parts_step hs hr' hp hi (by omega) kn _
  · intro kn
    unfold p_keccak_sponge_takes_l1_F
    dsimp only
    rw [if_neg (by omega), List.take_length]
  · have hS := feed_ok parts.flatten hs
    dsimp only
    rw [Int.toNat_natCast, Int.toNat_natCast]
    unfold absorb
    generalize feed rate (a, q) parts.flatten = S at *
    have h2 := hS.2
    rw [at_put hS.1 ⟨by omega, by omega⟩ (by omega) he, Option.bind_some]
    dsimp only
    rw [wrap_i64 (by omega) (by omega), show (rate : Int) - 1 = ((rate - 1 : Nat) : Int) by omega, at_put (putS_u hS.1 _ _) ⟨by omega, by omega⟩ (by omega) (by omega), Option.bind_some]
    dsimp only
    rw [at_perm (putS_u (putS_u hS.1 _ _) _ _), Option.bind_some]
theorem z25_u : u64s 25 z25 := rows.zero (by omega) 25
theorem absorb_u {rate : Nat} {s : List Int × Nat} (hs : okSp rate s) (e : Int) (l : List Int) : u64s 25 (absorb rate e s l) := permS_u (putS_u (putS_u (feed_ok l hs).1 _ _) _ _)
theorem at_takes {a : List Int} {rate p : Nat} {e : Int} {parts : List (List Int)} (ha : u64s 25 a) (hr : 8 ≤ rate ∧ rate ≤ 200) (hp : p < rate) (he : 0 ≤ e ∧ e ≤ 255) (hl : partsOk parts) :
    g_keccak_sponge_takes ((a, (rate : Int), (p : Int), ()), e, parts, ()) = some (absorb rate e (a, p) parts.flatten, (rate : Int), 0, ()) := by
  have := Spec_at (ks := p_keccak_sponge_takes_ks) (rs := p_keccak_sponge_takes_rs) (x := ((a, (rate : Int), (p : Int), ()), e, parts, ())) (Q := fun x => okRate x.1.2.1 ∧ 0 ≤ x.1.2.2.1 ∧ x.1.2.2.1 < x.1.2.1) (f := fun x => (absorb x.1.2.1.toNat x.2.1 (x.1.1, x.1.2.2.1.toNat) x.2.2.1.flatten, x.1.2.1, 0, ()))
    ⟨wf_sp.2 ⟨ha, by omega, by omega⟩, okInt_u8.2 he, wf_parts.2 hl, trivial⟩ ⟨⟨by show (8 : Int) ≤ rate; omega, by show (rate : Int) ≤ 200; omega⟩, by show (0 : Int) ≤ p; omega, by show (p : Int) < rate; omega⟩
  exact this
theorem q_keccak_started : ∀ x r, g_keccak_started x = some r → ∃ N, p_keccak_started N x = some r := by
  refine Spec_of (ks := p_keccak_started_ks) (rs := p_keccak_started_rs) fun x hw hq => ⟨0, ?_⟩
  obtain ⟨(r : Int), (parts : List (List Int)), u⟩ := x
  have hp : partsOk parts := wf_parts.1 hw.2.1
  have hr : 8 ≤ r ∧ r ≤ 200 := hq
  obtain ⟨rate, rfl⟩ : ∃ m : Nat, r = m := ⟨r.toNat, by omega⟩
  have e := at_takes (e := 31) (p := 0) z25_u (by omega) (show 0 < rate by omega) (by omega) hp
  unfold p_keccak_started
  refine (congrArg (fun o => Option.bind o _) e).trans ?_
  rw [Option.bind_some]
  rfl
theorem at_started {rate : Nat} {parts : List (List Int)} (hr : 8 ≤ rate ∧ rate ≤ 200) (hl : partsOk parts) : g_keccak_started ((rate : Int), parts, ()) = some (true, absorb rate 31 (z25, 0) parts.flatten, (rate : Int), 0, 0, ()) := by
  have := Spec_at (ks := p_keccak_started_ks) (rs := p_keccak_started_rs) (x := ((rate : Int), parts, ())) (Q := fun x => okRate x.1) (f := fun x => (true, absorb x.1.toNat 31 (z25, 0) x.2.1.flatten, x.1, 0, 0, ()))
    ⟨okInt_i64.2 (by omega), wf_parts.2 hl, trivial⟩ ⟨by show (8 : Int) ≤ rate; omega, by show (rate : Int) ≤ 200; omega⟩
  exact this
theorem q_keccak_Shake128 : ∀ x r, g_keccak_Shake128 x = some r → ∃ N, p_keccak_Shake128 N x = some r := by
  refine Spec_of (ks := p_keccak_Shake128_ks) (rs := p_keccak_Shake128_rs) fun x hw hq => ⟨0, ?_⟩
  obtain ⟨(parts : List (List Int)), u⟩ := x
  have hp : partsOk parts := wf_parts.1 hw.1
  unfold p_keccak_Shake128
  refine (congrArg (fun o => Option.bind o _) (at_started (rate := 168) (by omega) hp)).trans ?_
  rw [Option.bind_some]
  rfl
theorem at_Shake128 {parts : List (List Int)} (hl : partsOk parts) : g_keccak_Shake128 (parts, ()) = some (true, absorb 168 31 (z25, 0) parts.flatten, 168, 0, 0, ()) :=
  Spec_at (ks := p_keccak_Shake128_ks) (rs := p_keccak_Shake128_rs) (x := (parts, ())) ⟨wf_parts.2 hl, trivial⟩ trivial
theorem wf_xf {b : Bool} {a : List Int} {r p c : Int} : csWf [.bool, .xs (.int .u64) 25, .int .i64, .int .i64, .int .i64] (b, a, r, p, c, ()) ↔ u64s 25 a ∧ (-9223372036854775808 ≤ r ∧ r ≤ 9223372036854775807) ∧ (-9223372036854775808 ≤ p ∧ p ≤ 9223372036854775807) ∧ (-9223372036854775808 ≤ c ∧ c ≤ 9223372036854775807) := by
  have h1 : FK.wf (.xs (.int .u64) 25) a ↔ u64s 25 a := by simp [FK.wf, u64s, rows, okInt_u64]
  have h2 : FK.wf (.int .i64) r ↔ _ := okInt_i64
  have h3 : FK.wf (.int .i64) p ↔ _ := okInt_i64
  have h4 : FK.wf (.int .i64) c ↔ _ := okInt_i64
  have h5 : FK.wf .bool b ↔ True := by simp [FK.wf]
  simp only [csWf, h1, h2, h3, h4, h5, and_true, true_and]
theorem at_gives {a out : List Int} {rate p : Nat} (ha : u64s 25 a) (hr : 8 ≤ rate ∧ rate ≤ 200) (hp : p ≤ rate) (ho : out.length ≤ maxLen ∧ ∀ z ∈ out, 0 ≤ z ∧ z ≤ 255) :
    g_keccak_sponge_gives ((a, (rate : Int), (p : Int), ()), out, ()) = some (((stOf rate a (p + out.length)).1, (rate : Int), ((stOf rate a (p + out.length)).2 : Int), ()), (List.range out.length).map fun k => outB rate a (p + k)) := by
  have := Spec_at (ks := p_keccak_sponge_gives_ks) (rs := p_keccak_sponge_gives_rs) (x := ((a, (rate : Int), (p : Int), ()), out, ())) (Q := fun x => okRate x.1.2.1 ∧ 0 ≤ x.1.2.2.1 ∧ x.1.2.2.1 ≤ x.1.2.1)
    (f := fun x => (((stOf x.1.2.1.toNat x.1.1 (x.1.2.2.1.toNat + x.2.1.length)).1, x.1.2.1, ((stOf x.1.2.1.toNat x.1.1 (x.1.2.2.1.toNat + x.2.1.length)).2 : Int), ()), (List.range x.2.1.length).map fun k => outB x.1.2.1.toNat x.1.1 (x.1.2.2.1.toNat + k)))
    ⟨wf_sp.2 ⟨ha, by omega, by omega⟩, ⟨ho.1, fun z hz => okInt_u8.2 (ho.2 z hz)⟩, trivial⟩ ⟨⟨by show (8 : Int) ≤ rate; omega, by show (rate : Int) ≤ 200; omega⟩, by show (0 : Int) ≤ p; omega, by show (p : Int) ≤ rate; omega⟩
  exact this
theorem at_none {a : List Int} {r p c : Int} (h : csWf [.bool, .xs (.int .u64) 25, .int .i64, .int .i64, .int .i64] (true, a, r, p, c, ())) : g_keccak_Xof_none ((true, a, r, p, c, ()), ()) = some (false, (true, a, r, p, c, ())) :=
  Spec_at (ks := p_keccak_Xof_none_ks) (rs := p_keccak_Xof_none_rs) (x := ((true, a, r, p, c, ()), ())) ⟨h, trivial⟩ trivial
theorem at_may {n : Int} (h : 0 ≤ n ∧ n ≤ 1048576) : g_keccak_may (n, ()) = some 0 := by
  have := Spec_at (ks := p_keccak_may_ks) (rs := p_keccak_may_rs) (Q := fun _ => True) (f := fun x => fMay x.1) (x := (n, ())) ⟨okInt_i64.2 (by omega), trivial⟩ trivial
  refine this.trans ?_
  show some (fMay n) = _
  unfold fMay
  rw [if_neg (by omega), if_neg (by omega)]
theorem q_keccak_Xof_Read : ∀ x r, g_keccak_Xof_Read x = some r → ∃ N, p_keccak_Xof_Read N x = some r := by
  refine Spec_of (ks := p_keccak_Xof_Read_ks) (rs := p_keccak_Xof_Read_rs) fun x hw hq => ⟨0, ?_⟩
  obtain ⟨⟨(b : Bool), (a : List Int), (r : Int), (p : Int), (c : Int), u⟩, (n : Int), v⟩ := x
  obtain ⟨hb, hn0, hn1, hr, hp0, hp1⟩ : b = true ∧ 0 ≤ n ∧ n ≤ 1048576 ∧ (8 ≤ r ∧ r ≤ 200) ∧ 0 ≤ p ∧ p ≤ r := hq
  subst hb
  have hx := wf_xf.1 hw.1
  obtain ⟨rate, rfl⟩ : ∃ m : Nat, r = m := ⟨r.toNat, by omega⟩
  obtain ⟨q, rfl⟩ : ∃ m : Nat, p = m := ⟨p.toNat, by omega⟩
  obtain ⟨m, rfl⟩ : ∃ m : Nat, n = m := ⟨n.toNat, by omega⟩
  have hM : 1048576 ≤ maxLen := by decide
  have hg := at_gives (a := a) (out := List.replicate m 0) (rate := rate) (p := q) hx.1 (by omega) (by omega) ⟨by simp; omega, fun z hz => by rw [List.eq_of_mem_replicate hz]; omega⟩
  rw [List.length_replicate] at hg
  unfold p_keccak_Xof_Read
  refine (congrArg (fun o => Option.bind o _) (at_none hw.1)).trans ?_
  rw [Option.bind_some, if_neg (by simp)]
  dsimp only
  rw [at_may (by omega), Option.bind_some, if_neg (by omega), if_pos (by omega), if_pos rfl, if_pos (by omega), Int.toNat_natCast, hg, Option.bind_some]
  dsimp only
  rw [if_pos (by simp)]
  simp only [Int.toNat_natCast, decide_true]
theorem perms_add (a : List Int) (m : Nat) : ∀ n : Nat, perms n (perms m a) = perms (m + n) a
  | 0 => rfl
  | n + 1 => by rw [perms, perms_add a m n]; rfl
theorem outB_st {rate : Nat} (hr : 0 < rate) (a : List Int) (p k : Nat) : outB rate (stOf rate a p).1 ((stOf rate a p).2 + k) = outB rate a (p + k) := by
  unfold outB stOf
  dsimp only
  have e := Nat.div_add_mod (p - 1) rate
  generalize (p - 1) / rate = q at *
  have h : p + k = (p - q * rate + k) + rate * q := by
    rw [Nat.mul_comm] at e
    have : q * rate ≤ p := by omega
    rw [Nat.mul_comm rate q]; omega
  rw [h, Nat.add_mul_div_left _ _ hr, Nat.add_mul_mod_self_left, perms_add, Nat.add_comm q]
theorem stOf_st {rate : Nat} (hr : 0 < rate) (a : List Int) (p k : Nat) (hk : 0 < k) : stOf rate (stOf rate a p).1 ((stOf rate a p).2 + k) = stOf rate a (p + k) := by
  unfold stOf
  dsimp only
  have e := Nat.div_add_mod (p - 1) rate
  generalize (p - 1) / rate = q at *
  have h0 : q * rate ≤ p := by rw [Nat.mul_comm] at e; omega
  have h : p + k - 1 = (p - q * rate + k - 1) + rate * q := by
    rw [Nat.mul_comm rate q]; omega
  rw [h, Nat.add_mul_div_left _ _ hr, perms_add, Nat.add_comm q, Nat.add_mul]
  congr 1
  omega
theorem x64_zero {z : Int} (h : 0 ≤ z ∧ z ≤ 18446744073709551615) : x64 z 0 = z := by
  obtain ⟨n, rfl⟩ : ∃ n : Nat, z = n := ⟨z.toNat, by omega⟩
  unfold x64
  rw [show (0 : Int) = ((0 : Nat) : Int) from rfl, ixor_nat rfl (by simp [IntKind.bits]; omega) (by decide)]
  simp
theorem ishl_zero (s : Int) : ishl .u64 0 s = 0 := by simp [ishl, IntKind.wrap, IntKind.signed]
theorem set_selfK {a : List Int} {i : Nat} : a.set i (a.getD i 0) = a := by
  by_cases h : i < a.length
  · refine rows.ext (n := a.length) (by simp) rfl fun j hj => ?_
    by_cases e : i = j
    · subst e; rw [getD_set_eq h]
    · rw [getD_set_ne e]
  · rw [List.set_eq_of_length_le (by omega)]
theorem putS_zero {a : List Int} (h : u64s 25 a) (p : Nat) : putS a p 0 = a := by
  unfold putS
  rw [ishl_zero, x64_zero (h.at _)]
  exact set_selfK
theorem at_Sponge {rate n : Nat} {l : List Int} {e : Int} (hr : 8 ≤ rate ∧ rate ≤ 200) (hn : n ≤ 1048576) (he : 0 ≤ e ∧ e ≤ 255) (hl : (l.length ≤ maxLen ∧ ∀ z ∈ l, 0 ≤ z ∧ z ≤ 255) ∧ l.length ≤ 4294967000) :
    g_ref03_Sponge ((rate : Int), e, l, (n : Int), ()) = some (spongeS rate e l n) := by
  have := Spec_at (ks := p_ref03_Sponge_ks) (rs := p_ref03_Sponge_rs) (x := ((rate : Int), e, l, (n : Int), ())) (Q := fun x => okRate x.1 ∧ 0 ≤ x.2.2.2.1 ∧ x.2.2.2.1 ≤ 1048576 ∧ x.2.2.1.length ≤ 4294967000) (f := fun x => spongeS x.1.toNat x.2.1 x.2.2.1 x.2.2.2.1.toNat)
    ⟨okInt_i64.2 (by omega), okInt_u8.2 he, wf_bytes.2 hl.1, (okInt_i64 (n := (n : Int))).2 (by omega), trivial⟩ ⟨⟨by show (8 : Int) ≤ rate; omega, by show (rate : Int) ≤ 200; omega⟩, by show (0 : Int) ≤ n; omega, by show (n : Int) ≤ 1048576; omega, hl.2⟩
  exact this
theorem q_ref03_Shake : ∀ x r, g_ref03_Shake x = some r → ∃ N, p_ref03_Shake N x = some r := by
  refine Spec_of (ks := p_ref03_Shake_ks) (rs := p_ref03_Shake_rs) fun x hw hq => ⟨0, ?_⟩
  obtain ⟨(b : Int), (n : Int), (l : List Int), u⟩ := x
  have hl := wf_bytes.1 hw.2.2.1
  obtain ⟨h0, h1, h2⟩ : 0 ≤ n ∧ n ≤ 1048576 ∧ l.length ≤ 4294967000 := hq
  obtain ⟨m, rfl⟩ : ∃ m : Nat, n = m := ⟨n.toNat, by omega⟩
  unfold p_ref03_Shake
  dsimp only
  split
  · rw [show (168 : Int) = ((168 : Nat) : Int) from rfl, at_Sponge (by omega) (by omega) (by omega) ⟨hl, h2⟩, Option.bind_some]
    rfl
  · rw [show (136 : Int) = ((136 : Nat) : Int) from rfl, at_Sponge (by omega) (by omega) (by omega) ⟨hl, h2⟩, Option.bind_some]
    rfl
theorem block_step {rate : Nat} {n : Int} {L : Nat} {b : List Int} {at_ : Nat} {a : List Int} {i : Nat} (hr : 8 ≤ rate ∧ rate ≤ 200) (ha : u64s 25 a) (hb : b.length = L) (hL : L ≤ 4294967296) (hz : ∀ z ∈ b, 0 ≤ z ∧ z ≤ 255) (hat : at_ + rate ≤ L) (hi : i < rate)
    {β : Type} (N : Nat) (kn : _ → Option β) (k : _ → Option β) :
    p_ref03_Sponge_l10_F N β ((rate : Int), n, L, (at_ : Int), (rate : Int), (i : Int), L, b, a, ()) kn k = kn ((rate : Int), n, L, (at_ : Int), (rate : Int), ((i + 1 : Nat) : Int), L, b, putS a i (b.getD (at_ + i) 0), ()) := by
  have hx := hz _ (getD_mem (a := b) (i := at_ + i) (by omega))
  unfold p_ref03_Sponge_l10_F
  dsimp only
  rw [if_pos (by omega), tdiv8, tmod8, wrap_i64 (x := ((i / 8 : Nat) : Int)) (by omega) (by omega), wrap_i64 (x := (at_ : Int) + i) (by omega) (by omega), wrap_i64 (x := 8 * ((i % 8 : Nat) : Int)) (by omega) (by omega), wrap_u64 (x := 8 * ((i % 8 : Nat) : Int)) (by omega) (by omega), wrap_i64 (by omega) (by omega),
    Int.toNat_natCast, show ((at_ : Int) + i).toNat = at_ + i by omega, if_pos (by omega), if_pos (by omega), if_pos (by omega), if_pos (by omega), if_pos (by omega), if_pos (by omega), if_neg (by omega), if_pos (by omega), if_pos (by omega), if_pos (by omega), wrap_u64 (by omega) (by omega)]
  rfl
def foldB (b : List Int) (p : Nat) (a : List Int) : Nat → List Int
  | 0 => a
  | i + 1 => putS (foldB b p a i) i (b.getD (p + i) 0)
theorem foldB_u {b : List Int} {p : Nat} {a : List Int} (h : u64s 25 a) : ∀ i : Nat, u64s 25 (foldB b p a i)
  | 0 => h
  | i + 1 => putS_u (foldB_u h i) _ _
theorem take_one {b : List Int} {p i : Nat} (h : p + i < b.length) : (b.drop p).take (i + 1) = (b.drop p).take i ++ [b.getD (p + i) 0] := by
  rw [List.take_succ_eq_append_getElem (by simp; omega), List.getElem_drop, List.getD_eq_getElem?_getD, List.getElem?_eq_getElem h]
  rfl
theorem feed_part {rate : Nat} {b : List Int} {p : Nat} {a : List Int} : ∀ i : Nat, i < rate → p + i ≤ b.length → feed rate (a, 0) ((b.drop p).take i) = (foldB b p a i, i)
  | 0, _, _ => rfl
  | i + 1, h, hb => by
    rw [take_one (by omega), feed_append, feed_part i (by omega) (by omega), feed_one]
    unfold stepT
    rw [if_neg (by show ¬ i + 1 = rate; omega)]
    rfl
theorem feed_block {rate : Nat} {b : List Int} {p : Nat} {a : List Int} (hr : 0 < rate) (hb : p + rate ≤ b.length) : feed rate (a, 0) ((b.drop p).take rate) = (permS (foldB b p a rate), 0) := by
  obtain ⟨i, rfl⟩ : ∃ i, rate = i + 1 := ⟨rate - 1, by omega⟩
  rw [take_one (by omega), feed_append, feed_part i (by omega) (by omega), feed_one]
  unfold stepT
  rw [if_pos rfl]
  rfl
theorem block_all {rate : Nat} {n : Int} {L : Nat} {b : List Int} {p : Nat} {a : List Int} (hr : 8 ≤ rate ∧ rate ≤ 200) (ha : u64s 25 a) (hb : b.length = L) (hL : L ≤ 4294967296) (hz : ∀ z ∈ b, 0 ≤ z ∧ z ≤ 255) (hat : p + rate ≤ L)
    {β : Type} {N : Nat} (hN : rate < N) {k : _ → Option β} :
    iter (p_ref03_Sponge_l10_F N) N ((rate : Int), n, L, (p : Int), (rate : Int), (0 : Int), L, b, a, ()) k = k ((rate : Int), n, L, (p : Int), L, b, foldB b p a rate, ()) := by
  refine iter_from (F := p_ref03_Sponge_l10_F N) (s := fun i => ((rate : Int), n, L, (p : Int), (rate : Int), (i : Int), L, b, foldB b p a i, ())) (y := ((rate : Int), n, L, (p : Int), L, b, foldB b p a rate, ())) rate rfl ?_ ?_ N hN
  · exact fun i hi kn => block_step hr (foldB_u ha i) hb hL hz hat hi N kn k
  · intro kn
    unfold p_ref03_Sponge_l10_F
    dsimp only
    rw [if_neg (by omega)]
theorem blocks_all {rate : Nat} {n : Int} {L m : Nat} {b : List Int} (hr : 8 ≤ rate ∧ rate ≤ 200) (hb : b.length = L) (hL : L ≤ 4294967296) (hz : ∀ z ∈ b, 0 ≤ z ∧ z ≤ 255) (hm : L = m * rate)
    {β : Type} {N : Nat} (hN : rate < N) (hN2 : m < N) {k : _ → Option β} :
    iter (p_ref03_Sponge_l7_F N) N ((rate : Int), n, L, (0 : Int), L, b, z25, ()) k = k ((rate : Int), n, (feed rate (z25, 0) b).1, ()) := by
  have hall : ∀ j : Nat, j ≤ m → (feed rate (z25, 0) (b.take (j * rate))).2 = 0 ∧ u64s 25 (feed rate (z25, 0) (b.take (j * rate))).1 := by
    intro j
    induction j with
    | zero => intro _; rw [Nat.zero_mul]; exact ⟨rfl, z25_u⟩
    | succ j ih =>
      intro hj
      obtain ⟨i1, i2⟩ := ih (by omega)
      have hle : (j + 1) * rate ≤ m * rate := Nat.mul_le_mul_right _ hj
      rw [Nat.add_mul, Nat.one_mul] at hle ⊢
      rw [List.take_add, feed_append]
      generalize feed rate (z25, 0) (b.take (j * rate)) = S at *
      obtain ⟨S1, S2⟩ := S
      dsimp only at i1 i2
      subst i1
      rw [feed_block (by omega) (by omega)]
      exact ⟨rfl, permS_u (foldB_u i2 _)⟩
  refine iter_from (F := p_ref03_Sponge_l7_F N) (s := fun j => ((rate : Int), n, L, ((j * rate : Nat) : Int), L, b, (feed rate (z25, 0) (b.take (j * rate))).1, ())) (y := ((rate : Int), n, (feed rate (z25, 0) b).1, ())) m ?_ ?_ ?_ N hN2
  · rw [Nat.zero_mul]; rfl
  · intro j hj kn
    obtain ⟨i1, i2⟩ := hall j (by omega)
    have hle : (j + 1) * rate ≤ m * rate := Nat.mul_le_mul_right _ hj
    have e : feed rate (z25, 0) (b.take ((j + 1) * rate)) = (permS (foldB b (j * rate) (feed rate (z25, 0) (b.take (j * rate))).1 rate), 0) := by
      rw [Nat.add_mul, Nat.one_mul] at hle ⊢
      rw [List.take_add, feed_append]
      generalize feed rate (z25, 0) (b.take (j * rate)) = S at *
      obtain ⟨S1, S2⟩ := S
      dsimp only at i1 i2
      subst i1
      exact feed_block (by omega) (by omega)
    rw [e]
    rw [Nat.add_mul, Nat.one_mul] at hle ⊢
    unfold p_ref03_Sponge_l7_F
    dsimp only
    rw [if_pos (by omega), block_all hr i2 hb hL hz (by omega) hN]
    dsimp only
    rw [at_perm' (foldB_u i2 _), Option.bind_some, wrap_i64 (by omega) (by omega), Int.natCast_add]
  · intro kn
    unfold p_ref03_Sponge_l7_F
    dsimp only
    rw [if_neg (by omega), ← hm, ← hb, List.take_length]
theorem at_bytes {a : List Int} {k : Nat} (ha : u64s 25 a) (hk : k ≤ 200) : g_ref03_bytes (a, (k : Int), ()) = some ((List.range k).map (byteOf a)) := by
  have := Spec_at (ks := p_ref03_bytes_ks) (rs := p_ref03_bytes_rs) (x := (a, (k : Int), ())) (Q := fun x => 0 ≤ x.2.1 ∧ x.2.1 ≤ 200) (f := fun x => (List.range x.2.1.toNat).map (byteOf x.1))
    ⟨wf_u64s.2 ha, (okInt_i64 (n := (k : Int))).2 (by omega), trivial⟩ ⟨by show (0 : Int) ≤ k; omega, by show (k : Int) ≤ 200; omega⟩
  exact this
theorem out_more {rate : Nat} {a : List Int} {j k : Nat} (hr : 0 < rate) (hk : k ≤ rate) : (List.range (j * rate)).map (outB rate a) ++ (List.range k).map (byteOf (perms j a)) = (List.range (j * rate + k)).map (outB rate a) := by
  rw [List.range_add, List.map_append, List.map_map]
  congr 1
  refine List.map_congr_left fun i hi => ?_
  have hi : i < k := List.mem_range.1 hi
  show _ = outB rate a (j * rate + i)
  unfold outB
  rw [Nat.add_comm, Nat.mul_comm, Nat.add_mul_div_left _ _ hr, Nat.add_mul_mod_self_left, Nat.div_eq_of_lt (by omega), Nat.mod_eq_of_lt (by omega), Nat.zero_add]
theorem min_if {a b : Nat} : (if ((a : Int)) < (b : Int) then (a : Int) else (b : Int)) = ((min a b : Nat) : Int) := by
  split <;> omega
theorem squeeze_all {rate n : Nat} {a : List Int} (hr : 8 ≤ rate ∧ rate ≤ 200) (hn : n ≤ 1048576) (ha : u64s 25 a) {β : Type} {N : Nat} (hN : n < N) {k : _ → Option β} :
    iter (p_ref03_Sponge_l16_F N) N ((rate : Int), (n : Int), 0, a, 0, (List.replicate 0 0), ()) k = k (n, n, (List.range n).map (outB rate a), ()) := by
  have h0 : 0 < rate := by omega
  have hm : (n + rate - 1) / rate ≤ n := by
    rw [Nat.div_le_iff_le_mul_add_pred h0]
    have : n ≤ rate * n := Nat.le_mul_of_pos_left n h0
    omega
  have e := Nat.div_add_mod (n + rate - 1) rate
  have e1 := Nat.mod_lt (n + rate - 1) h0
  generalize (n + rate - 1) / rate = m at *
  rw [Nat.mul_comm] at e
  refine iter_from (F := p_ref03_Sponge_l16_F N) (s := fun j => ((rate : Int), (n : Int), min (j * rate) n, perms (j - 1) a, min (j * rate) n, (List.range (min (j * rate) n)).map (outB rate a), ())) (y := (n, n, (List.range n).map (outB rate a), ())) m ?_ ?_ ?_ N (by omega)
  · rw [Nat.zero_mul, Nat.zero_min]; rfl
  · intro j hj kn
    have hle : (j + 1) * rate ≤ m * rate := Nat.mul_le_mul_right _ hj
    rw [Nat.add_mul, Nat.one_mul] at hle ⊢
    have hc : min (j * rate) n = j * rate := by omega
    have hc2 : min (j * rate + rate) n = j * rate + min (n - j * rate) rate := by omega
    have hw : IntKind.i64.wrap ((n : Int) - ((j * rate : Nat) : Int)) = ((n - j * rate : Nat) : Int) := by rw [wrap_i64 (by omega) (by omega)]; omega
    have hp := perms_u ha j
    rw [hc, hc2, ← out_more h0 (by omega)]
    unfold p_ref03_Sponge_l16_F
    dsimp only
    rw [if_pos (by omega), hw, min_if]
    by_cases hj0 : j = 0
    · subst hj0
      rw [if_neg (by omega)]
      have q : g_ref03_bytes (perms (0 - 1) a, ((min (n - 0 * rate) rate : Nat) : Int), ()) = _ := at_bytes (a := perms 0 a) hp (by omega)
      rw [q, Option.bind_some, List.length_map, List.length_range, if_pos (by omega)]
    · obtain ⟨i, rfl⟩ : ∃ i, j = i + 1 := ⟨j - 1, by omega⟩
      have hpos : 0 < (i + 1) * rate := Nat.mul_pos (by omega) h0
      rw [if_pos (by omega)]
      have q : g_ref03_Permute (perms (i + 1 - 1) a, ()) = some (perms (i + 1) a) := at_perm' (perms_u ha i)
      rw [q, Option.bind_some, at_bytes hp (by omega), Option.bind_some, List.length_map, List.length_range, if_pos (by omega)]
      rfl
  · intro kn
    have hc : min (m * rate) n = n := by omega
    unfold p_ref03_Sponge_l16_F
    dsimp only
    rw [hc, if_neg (by omega)]
theorem putS_two {a : List Int} (h : u64s 25 a) {p : Nat} (hp : p < 200) {x y : Int} (hx : 0 ≤ x ∧ x ≤ 255) (hy : 0 ≤ y ∧ y ≤ 255) : putS (putS a p x) p y = putS a p (ixor .u8 x y) := by
  have hl : p / 8 < a.length := by rw [h.1]; omega
  obtain ⟨z, hz⟩ : ∃ z : Nat, at0 a (p / 8) = z := ⟨(at0 a (p / 8)).toNat, by have := h.at (p / 8); omega⟩
  have hzb : z < 2 ^ 64 := by have := (h.at (p / 8)).2; omega
  obtain ⟨x, rfl⟩ : ∃ m : Nat, x = m := ⟨x.toNat, by omega⟩
  obtain ⟨y, rfl⟩ : ∃ m : Nat, y = m := ⟨y.toNat, by omega⟩
  have e : at0 (putS a p x) (p / 8) = x64 (at0 a (p / 8)) (ishl .u64 x ((8 * (p % 8) : Nat) : Int)) := getD_set_eq hl
  unfold putS at e ⊢
  rw [e, List.set_set, hz]
  congr 1
  have hs : 8 * (p % 8) ≤ 56 := by omega
  generalize 8 * (p % 8) = s at *
  have hp2 : (2 : Nat) ^ s ≤ 2 ^ 56 := Nat.pow_le_pow_right (by omega) hs
  have hb : ∀ w : Nat, w ≤ 255 → w * 2 ^ s < 2 ^ 64 := fun w hw => by
    have := Nat.mul_le_mul hw hp2
    omega
  have hxy : x ^^^ y < 2 ^ 8 := Nat.xor_lt_two_pow (by omega) (by omega)
  rw [ixor_nat (k := .u8) rfl (by simp [IntKind.bits]; omega) (by simp [IntKind.bits]; omega)]
  rw [ishl_nat rfl (by simp [IntKind.bits]; omega) (hb x (by omega)), ishl_nat rfl (by simp [IntKind.bits]; omega) (hb y (by omega)), ishl_nat rfl (by simp [IntKind.bits]; omega) (hb _ (by omega))]
  unfold x64
  rw [ixor_nat rfl hzb (hb x (by omega)), ixor_nat rfl (Nat.xor_lt_two_pow hzb (hb x (by omega))) (hb y (by omega)), ixor_nat rfl hzb (hb _ (by omega))]
  congr 1
  rw [Nat.xor_assoc]
  congr 1
  rw [← Nat.shiftLeft_eq, ← Nat.shiftLeft_eq, ← Nat.shiftLeft_eq, Nat.shiftLeft_xor_distrib]
theorem feed_zeros {rate : Nat} {s : List Int × Nat} (hs : okSp rate s) : ∀ k : Nat, s.2 + k < rate → feed rate s (List.replicate k 0) = (s.1, s.2 + k)
  | 0, _ => rfl
  | k + 1, h => by
    rw [List.replicate_succ', feed_append, feed_zeros hs k (by omega), feed_one]
    unfold stepT
    dsimp only
    rw [if_neg (by omega), putS_zero hs.1]
    rfl
theorem feed_pos {rate : Nat} : ∀ {s : List Int × Nat} (l : List Int), s.2 < rate → (feed rate s l).2 = (s.2 + l.length) % rate
  | s, [], h => (Nat.mod_eq_of_lt h).symm
  | s, x :: l, h => by
    have h1 : (stepT rate s x).2 < rate ∧ (stepT rate s x).2 % rate = (s.2 + 1) % rate := by
      unfold stepT
      split
      · rename_i e; exact ⟨by show 0 < rate; omega, by show 0 % rate = _; rw [e]; simp⟩
      · exact ⟨by show s.2 + 1 < rate; omega, rfl⟩
    show (feed rate (stepT rate s x) l).2 = _
    rw [feed_pos l h1.1, ← Nat.mod_add_mod, h1.2, Nat.mod_add_mod, List.length_cons]
    congr 1; omega
theorem set_last {l : List Int} {x y : Int} : (l ++ [x]).set l.length y = l ++ [y] := by simp
theorem feed_pad {rate : Nat} {l : List Int} {e : Int} {k : Nat} (hr : 8 ≤ rate ∧ rate ≤ 200) (he : 0 ≤ e ∧ e ≤ 255) (hk : k < rate) (hd : (l.length + 1 + k) % rate = 0) :
    (feed rate (z25, 0) ((l ++ [e] ++ List.replicate k 0).set (l.length + k) (ixor .u8 ((l ++ [e] ++ List.replicate k 0).getD (l.length + k) 0) 128))).1 = absorb rate e (z25, 0) l := by
  have hs : okSp rate (z25, 0) := ⟨z25_u, by show 0 < rate; omega⟩
  have hS := feed_ok l hs
  have hpos := feed_pos l hs.2
  unfold absorb
  dsimp only at hpos
  rw [Nat.zero_add] at hpos
  have hmod : ((feed rate (z25, 0) l).2 + 1 + k) % rate = 0 := by
    rw [hpos, Nat.add_assoc, Nat.mod_add_mod, ← Nat.add_assoc]; exact hd
  cases k with
  | zero =>
    rw [Nat.add_zero, List.replicate_zero, List.append_nil, set_last]
    rw [show (l ++ [e]).getD l.length 0 = e by simp, feed_append, feed_one]
    generalize feed rate (z25, 0) l = S at *
    have h2 := hS.2
    have hp : S.2 + 1 = rate := by
      rw [Nat.add_zero] at hmod
      by_cases h : S.2 + 1 < rate
      · rw [Nat.mod_eq_of_lt h] at hmod; omega
      · omega
    unfold stepT
    rw [if_pos hp, show rate - 1 = S.2 by omega, putS_two hS.1 (by omega) he (by omega)]
  | succ k =>
    rw [List.replicate_succ', ← List.append_assoc, show l.length + (k + 1) = (l ++ [e] ++ List.replicate k 0).length by simp; try omega, set_last]
    have g : List.getD (l ++ [e] ++ List.replicate k (0 : Int) ++ [(0 : Int)]) (l ++ [e] ++ List.replicate k (0 : Int)).length (0 : Int) = 0 := by
      rw [List.getD_eq_getElem?_getD, List.getElem?_append_right (Nat.le_refl _)]; simp
    rw [g]
    rw [feed_append, feed_append, feed_append, feed_one, feed_one]
    generalize feed rate (z25, 0) l = S at *
    have h2 := hS.2
    have hp : S.2 + 1 + (k + 1) = rate := by
      by_cases h : S.2 + 1 + (k + 1) < rate
      · rw [Nat.mod_eq_of_lt h] at hmod; omega
      · rw [Nat.mod_eq_sub_mod (by omega), Nat.mod_eq_of_lt (by omega)] at hmod; omega
    have e1 : stepT rate S e = (putS S.1 S.2 e, S.2 + 1) := by unfold stepT; rw [if_neg (by omega)]
    rw [e1, feed_zeros ⟨putS_u hS.1 _ _, by show S.2 + 1 < rate; omega⟩ k (by show S.2 + 1 + k < rate; omega)]
    unfold stepT
    dsimp only
    rw [if_pos (by omega), show rate - 1 = S.2 + 1 + k by omega]
    rfl
def padN (rate L : Nat) : Nat := (rate - L % rate) % rate
theorem padN_ok {rate : Nat} (hr : 0 < rate) (L : Nat) : padN rate L < rate ∧ (L + padN rate L) % rate = 0 ∧ ∀ i, i < padN rate L → (L + i) % rate ≠ 0 := by
  have h1 := Nat.mod_lt L hr
  have e := Nat.div_add_mod L rate
  unfold padN
  by_cases h : L % rate = 0
  · rw [h, Nat.sub_zero, Nat.mod_self]
    exact ⟨hr, h, fun i hi => absurd hi (by omega)⟩
  · rw [Nat.mod_eq_of_lt (show rate - L % rate < rate by omega)]
    refine ⟨by omega, ?_, fun i hi => ?_⟩
    · rw [← Nat.mod_add_mod, show L % rate + (rate - L % rate) = rate by omega, Nat.mod_self]
    · rw [← Nat.mod_add_mod, Nat.mod_eq_of_lt (by omega)]; omega
theorem pad_all {rate : Nat} {n : Int} {b : List Int} {L : Nat} (hr : 8 ≤ rate ∧ rate ≤ 200) (hb : b.length = L) (hL : L ≤ 4294967100) {β : Type} {N : Nat} (hN : rate < N) {k : _ → Option β} :
    iter (p_ref03_Sponge_l2_F N) N ((rate : Int), n, L, L, b, ()) k = k ((rate : Int), n, L + padN rate L, L + padN rate L, b ++ List.replicate (padN rate L) 0, ()) := by
  obtain ⟨h1, h2, h3⟩ := padN_ok (show 0 < rate by omega) L
  have hm : ∀ i : Nat, Int.tmod ((i : Nat) : Int) (rate : Int) = ((i % rate : Nat) : Int) := fun i => by rw [tmod_pos (by omega)]; omega
  refine iter_from (F := p_ref03_Sponge_l2_F N) (s := fun i => ((rate : Int), n, L + i, L + i, b ++ List.replicate i 0, ())) (y := ((rate : Int), n, L + padN rate L, L + padN rate L, b ++ List.replicate (padN rate L) 0, ())) (padN rate L) ?_ ?_ ?_ N (by omega)
  · rw [Nat.add_zero, List.replicate_zero, List.append_nil]
  · intro i hi kn
    have := h3 i hi
    unfold p_ref03_Sponge_l2_F
    dsimp only
    rw [if_neg (by omega), hm, if_pos (by omega), if_pos (by omega), List.append_assoc]
    rw [show (List.replicate 1 (0 : Int)).set 0 0 = [0] from rfl, ← List.replicate_succ']
    rfl
  · intro kn
    unfold p_ref03_Sponge_l2_F
    dsimp only
    rw [if_neg (by omega), hm, h2, if_neg (by simp)]
theorem at_Join2 {l : List Int} {e : Int} (hl : l.length ≤ 4294967000 ∧ ∀ z ∈ l, 0 ≤ z ∧ z ≤ 255) (he : 0 ≤ e ∧ e ≤ 255) : g_ref01_Join ([l, [e]], ()) = some (l ++ [e]) := by
  have hM : 4294967296 ≤ maxLen := by decide
  have hw : partsOk [l, [e]] := by
    refine ⟨by simp only [List.length_cons, List.length_nil]; omega, fun zs hz => ?_⟩
    rcases List.mem_cons.1 hz with rfl | hz
    · exact ⟨by omega, hl.2⟩
    · rw [List.mem_singleton.1 hz]
      exact ⟨by simp only [List.length_cons, List.length_nil]; omega, fun z hz => by rw [List.mem_singleton.1 hz]; exact he⟩
  have := Spec_at (ks := [.sls (.int .u8)]) (rs := [.sl (.int .u8)]) (x := ([l, [e]], ())) (Q := fun x => x.1.flatten.length ≤ 4294967296) (f := fun x => x.1.flatten) ⟨wf_parts.2 hw, trivial⟩ (by show [l, [e]].flatten.length ≤ 4294967296; simp; omega)
  refine Eq.trans this ?_
  show some ([l, [e]].flatten) = _
  simp
theorem q_ref03_Sponge : ∀ x r, g_ref03_Sponge x = some r → ∃ N, p_ref03_Sponge N x = some r := by
  refine Spec_of (ks := p_ref03_Sponge_ks) (rs := p_ref03_Sponge_rs) fun x hw hq => ?_
  obtain ⟨(r : Int), (e : Int), (l : List Int), (n : Int), u⟩ := x
  have he : 0 ≤ e ∧ e ≤ 255 := okInt_u8.1 hw.2.1
  have hl := wf_bytes.1 hw.2.2.1
  obtain ⟨hr, h0, h1, h2⟩ : (8 ≤ r ∧ r ≤ 200) ∧ 0 ≤ n ∧ n ≤ 1048576 ∧ l.length ≤ 4294967000 := hq
  obtain ⟨rate, rfl⟩ : ∃ m : Nat, r = m := ⟨r.toNat, by omega⟩
  obtain ⟨n, rfl⟩ : ∃ m : Nat, n = m := ⟨n.toNat, by omega⟩
  have hr' : 8 ≤ rate ∧ rate ≤ 200 := by omega
  have hL : (l ++ [e]).length = l.length + 1 := by simp
  obtain ⟨p1, p2, _⟩ := padN_ok (show 0 < rate by omega) (l.length + 1)
  have hf := feed_pad (e := e) hr' he p1 p2
  have hpad := fun {β : Type} {N : Nat} (hN : rate < N) (k : _ → Option β) => pad_all (n := (n : Int)) hr' hL (show l.length + 1 ≤ 4294967100 by omega) hN (k := k)
  generalize padN rate (l.length + 1) = k at *
  have hbz : ∀ z ∈ l ++ [e] ++ List.replicate k (0 : Int), 0 ≤ z ∧ z ≤ 255 := by
    intro z hz
    rcases List.mem_append.1 hz with hz | hz
    · rcases List.mem_append.1 hz with hz | hz
      · exact hl.2 z hz
      · rw [List.mem_singleton.1 hz]; exact he
    · rw [List.eq_of_mem_replicate hz]; omega
  have hblen : (l ++ [e] ++ List.replicate k (0 : Int)).length = l.length + 1 + k := by simp; omega
  generalize l ++ [e] ++ List.replicate k (0 : Int) = B at *
  have hm : l.length + 1 + k = (l.length + 1 + k) / rate * rate := by
    have := Nat.div_add_mod (l.length + 1 + k) rate
    rw [p2, Nat.mul_comm] at this; omega
  have hxb : 0 ≤ ixor .u8 (B.getD (l.length + k) 0) 128 ∧ ixor .u8 (B.getD (l.length + k) 0) 128 ≤ 255 := by
    unfold ixor
    simp [IntKind.wrap, IntKind.signed, IntKind.bits]; omega
  have hz2 : ∀ z ∈ B.set (l.length + k) (ixor .u8 (B.getD (l.length + k) 0) 128), 0 ≤ z ∧ z ≤ 255 := by
    intro z hz
    rcases List.mem_or_eq_of_mem_set hz with hz | hz
    · exact hbz z hz
    · rw [hz]; exact hxb
  have hN1 : (l.length + 1 + k) / rate ≤ l.length + 1 + k := Nat.div_le_self _ _
  refine ⟨l.length + 1 + k + n + 201, ?_⟩
  unfold p_ref03_Sponge
  refine (congrArg (fun o => Option.bind o _) (at_Join2 ⟨h2, hl.2⟩ he)).trans ?_
  rw [Option.bind_some]
  dsimp only
  rw [hL]
  refine (hpad (by omega) _).trans ?_
  dsimp only
  have c1 : IntKind.i64.wrap (((l.length + 1 + k : Nat) : Int) - 1) = ((l.length + k : Nat) : Int) := by rw [wrap_i64 (by omega) (by omega)]; omega
  rw [c1, Int.toNat_natCast, if_pos (by omega), if_pos (by omega), if_pos (by omega), if_pos (by omega), if_pos (by omega), if_pos (by omega)]
  refine (blocks_all (m := (l.length + 1 + k) / rate) hr' (by rw [List.length_set, hblen]) (by omega) hz2 hm (by omega) (by omega)).trans ?_
  dsimp only
  rw [hf]
  refine (squeeze_all hr' (by omega) (absorb_u ⟨z25_u, by show 0 < rate; omega⟩ _ _) (by omega)).trans ?_
  dsimp only
  rw [Int.toNat_natCast, Int.toNat_natCast]
  rfl
theorem q_ref01_Join : ∀ x r, g_ref01_Join x = some r → ∃ N, p_ref01_Join N x = some r := by
  refine Spec_of (ks := p_ref01_Join_ks) (rs := p_ref01_Join_rs) fun x hw hq => ?_
  obtain ⟨(l : List (List Int)), u⟩ := x
  have hp : partsOk l := wf_parts.1 hw.1
  have hq : l.flatten.length ≤ 4294967296 := hq
  have hM : maxLen ≤ 9223372036854775807 := by decide
  have hl := hp.1
  have hone : ∀ i : Nat, i < l.length → (l.take (i + 1)).flatten = (l.take i).flatten ++ l.getD i [] := fun i hi => by
    rw [List.take_succ_eq_append_getElem hi, List.flatten_append, List.getD_eq_getElem?_getD, List.getElem?_eq_getElem hi]; simp
  have hle : ∀ i : Nat, (l.take i).flatten.length ≤ l.flatten.length := fun i => by
    conv => rhs; rw [← List.take_append_drop i l, List.flatten_append, List.length_append]
    omega
  refine ⟨l.length + 1, ?_⟩
  unfold p_ref01_Join
  dsimp only
  refine (iter_from (F := p_ref01_Join_l3_F (l.length + 1)) (s := fun i => ((l.take i).flatten.length, l, (l.length : Int), (i : Int), (l.take i).flatten.length, (l.take i).flatten, ()))
    (y := (l.flatten.length, l.flatten.length, l.flatten, ())) l.length rfl ?_ ?_ _ (by omega)).trans ?_
  · intro i hi kn
    have h1 := hle (i + 1)
    rw [hone i hi] at h1 ⊢
    rw [List.length_append] at h1 ⊢
    unfold p_ref01_Join_l3_F
    dsimp only
    rw [if_pos (by omega), if_pos (by omega), if_pos (by omega), Int.toNat_natCast, if_pos (by omega), wrap_i64 (by omega) (by omega)]
    rfl
  · intro kn
    unfold p_ref01_Join_l3_F
    dsimp only
    rw [if_neg (by omega), List.take_length]
  · rfl
abbrev z256 : List Int := List.replicate 256 0
def padL (L : List Int) : List Int := L ++ List.replicate (256 - L.length) 0
theorem padL_set {L : List Int} {c : Int} (h : L.length < 256) : (padL L).set L.length c = padL (L ++ [c]) := by
  unfold padL
  rw [List.set_append_right _ _ (Nat.le_refl _), Nat.sub_self, List.append_assoc]
  obtain ⟨k, hk⟩ : ∃ k, 256 - L.length = k + 1 := ⟨255 - L.length, by omega⟩
  rw [hk, List.replicate_succ, List.set_cons_zero, List.length_append, List.length_singleton, show 256 - (L.length + 1) = k by omega]
  rfl
theorem padL_full {L : List Int} (h : L.length = 256) : padL L = L := by simp [padL, h]
abbrev Il := Int × Int × List Int × Int × List Int × List Int × Bool × List Int × Int × Int × Int × Unit
abbrev Ol := (Int × List Int × Unit) ⊕ (Int × Int × List Int × List Int × Bool × List Int × Int × Int × Int × Unit)
theorem inner_no {N : Nat} {β : Type} {t : Int} {cs z A : List Int} {b : Bool} {r p q : Int} {L : List Int} {j : Nat} (hj : j < 2) (hc : 3329 ≤ cs.getD j 0) (kn : Il → Option β) (ke : Ol → Option β) :
    p_ring_SampleNtt_l11_F N β ((L.length : Int), t, cs, (j : Int), z, padL L, b, A, r, p, q, ()) kn ke = kn ((L.length : Int), t, cs, ((j + 1 : Nat) : Int), z, padL L, b, A, r, p, q, ()) := by
  unfold p_ring_SampleNtt_l11_F
  dsimp only
  rw [if_pos (by omega), if_pos (by omega), if_pos (by omega), if_pos (by omega), Int.toNat_natCast, if_pos hc, wrap_i64 (by omega) (by omega)]
  rfl
theorem inner_yes {N : Nat} {β : Type} {t : Int} {cs z A : List Int} {b : Bool} {r p q : Int} {L : List Int} {j : Nat} (hj : j < 2) (hc : cs.getD j 0 < 3329) (hL : L.length < 255) (kn : Il → Option β) (ke : Ol → Option β) :
    p_ring_SampleNtt_l11_F N β ((L.length : Int), t, cs, (j : Int), z, padL L, b, A, r, p, q, ()) kn ke = kn (((L ++ [cs.getD j 0]).length : Int), t, cs, ((j + 1 : Nat) : Int), z, padL (L ++ [cs.getD j 0]), b, A, r, p, q, ()) := by
  unfold p_ring_SampleNtt_l11_F
  dsimp only
  rw [if_pos (by omega), if_pos (by omega), if_pos (by omega), if_pos (by omega), Int.toNat_natCast, if_neg (by omega), if_pos (by omega), if_pos (by omega), Int.toNat_natCast, if_pos (by omega), wrap_i64 (by omega) (by omega), if_neg (by omega), padL_set (by omega), wrap_i64 (by omega) (by omega), List.length_append, List.length_singleton]
  rfl
theorem inner_full {N : Nat} {β : Type} {t : Int} {cs z A : List Int} {b : Bool} {r p q : Int} {L : List Int} {j : Nat} (hj : j < 2) (hc : cs.getD j 0 < 3329) (hL : L.length = 255) (kn : Il → Option β) (ke : Ol → Option β) :
    p_ring_SampleNtt_l11_F N β ((L.length : Int), t, cs, (j : Int), z, padL L, b, A, r, p, q, ()) kn ke = ke (.inl (0, L ++ [cs.getD j 0], ())) := by
  have hf : padL (L ++ [cs.getD j 0]) = L ++ [cs.getD j 0] := padL_full (by simp [hL])
  unfold p_ring_SampleNtt_l11_F
  dsimp only
  rw [if_pos (by omega), if_pos (by omega), if_pos (by omega), if_pos (by omega), Int.toNat_natCast, if_neg (by omega), if_pos (by omega), if_pos (by omega), Int.toNat_natCast, if_pos (by omega), wrap_i64 (by omega) (by omega), if_pos (by omega), padL_set (by omega), hf]
theorem inner_end {N : Nat} {β : Type} {t : Int} {cs z A a : List Int} {b : Bool} {r p q n : Int} (kn : Il → Option β) (ke : Ol → Option β) :
    p_ring_SampleNtt_l11_F N β (n, t, cs, ((2 : Nat) : Int), z, a, b, A, r, p, q, ()) kn ke = ke (.inr (n, t, z, a, b, A, r, p, q, ())) := by
  unfold p_ring_SampleNtt_l11_F
  dsimp only
  rw [if_neg (by omega)]
def took (L cs : List Int) : List Int := L ++ cs.filter fun z => decide (z < 3329)
theorem take256 {L : List Int} (h : L.length ≤ 256) : L.take 256 = L := List.take_of_length_le h
theorem inner_all {N : Nat} {β : Type} {t : Int} {z A : List Int} {b : Bool} {r p q : Int} {L : List Int} {c d : Int} (hL : L.length < 256) (ke : Ol → Option β) :
    iter (p_ring_SampleNtt_l11_F (N + 3)) (N + 3) ((L.length : Int), t, [c, d], (0 : Int), z, padL L, b, A, r, p, q, ()) ke
    = if (took L [c, d]).length < 256 then ke (.inr (((took L [c, d]).length : Int), t, z, padL (took L [c, d]), b, A, r, p, q, ())) else ke (.inl (0, (took L [c, d]).take 256, ())) := by
  have s0 : ∀ (L : List Int) (kn : Il → Option β), p_ring_SampleNtt_l11_F (N + 3) β ((L.length : Int), t, [c, d], (0 : Int), z, padL L, b, A, r, p, q, ()) kn ke = p_ring_SampleNtt_l11_F (N + 3) β ((L.length : Int), t, [c, d], ((0 : Nat) : Int), z, padL L, b, A, r, p, q, ()) kn ke := fun _ _ => rfl
  simp only [iter]
  rw [s0]
  by_cases hc : c < 3329
  · by_cases h1 : L.length = 255
    · rw [inner_full (j := 0) (cs := [c, d]) (L := L) (by omega) hc h1, if_neg (by simp [took, hc]; omega)]
      congr 2
      simp [took, hc, h1, List.take_append, take256 (L := L) (by omega)]
    · rw [inner_yes (j := 0) (cs := [c, d]) (L := L) (by omega) hc (by omega)]
      show p_ring_SampleNtt_l11_F (N + 3) β (((L ++ [c]).length : Int), t, [c, d], ((1 : Nat) : Int), z, padL (L ++ [c]), b, A, r, p, q, ()) _ ke = _
      by_cases hd : d < 3329
      · by_cases h2 : L.length = 254
        · rw [inner_full (j := 1) (cs := [c, d]) (L := L ++ [c]) (by omega) hd (by simp; omega), if_neg (by simp [took, hc, hd]; omega)]
          simp [took, hc, hd, h2, List.take_append, take256 (L := L) (by omega)]
        · rw [inner_yes (j := 1) (cs := [c, d]) (L := L ++ [c]) (by omega) hd (by simp; omega)]
          refine (inner_end _ _).trans ?_
          rw [if_pos (by simp [took, hc, hd]; omega)]
          simp [took, hc, hd]
      · rw [inner_no (j := 1) (cs := [c, d]) (L := L ++ [c]) (by omega) (by show 3329 ≤ d; omega)]
        refine (inner_end _ _).trans ?_
        rw [if_pos (by simp [took, hc, hd]; omega)]
        simp [took, hc, hd]
  · rw [inner_no (j := 0) (cs := [c, d]) (L := L) (by omega) (by show 3329 ≤ c; omega)]
    by_cases hd : d < 3329
    · by_cases h2 : L.length = 255
      · rw [inner_full (j := 1) (cs := [c, d]) (L := L) (by omega) hd h2, if_neg (by simp [took, hc, hd]; omega)]
        simp [took, hc, hd, h2, List.take_append, take256 (L := L) (by omega)]
      · rw [inner_yes (j := 1) (cs := [c, d]) (L := L) (by omega) hd (by omega)]
        refine (inner_end _ _).trans ?_
        rw [if_pos (by simp [took, hc, hd]; omega)]
        simp [took, hc, hd]
    · rw [inner_no (j := 1) (cs := [c, d]) (L := L) (by omega) (by show 3329 ≤ d; omega)]
      refine (inner_end _ _).trans ?_
      rw [if_pos (by simp [took, hc, hd]; omega)]
      simp [took, hc, hd]
theorem outB_b (rate : Nat) (a : List Int) (p : Nat) : 0 ≤ outB rate a p ∧ outB rate a p ≤ 255 := by
  unfold outB byteOf
  simp [IntKind.wrap, IntKind.signed, IntKind.bits]; omega
theorem stOf_ok {rate : Nat} (hr : 0 < rate) {a : List Int} (ha : u64s 25 a) (p : Nat) : u64s 25 (stOf rate a p).1 ∧ (stOf rate a p).2 ≤ rate := by
  refine ⟨perms_u ha _, ?_⟩
  unfold stOf
  have e := Nat.div_add_mod (p - 1) rate
  have e1 := Nat.mod_lt (p - 1) hr
  rw [Nat.mul_comm] at e
  show p - (p - 1) / rate * rate ≤ rate
  omega
theorem at_Read3 {A : List Int} {P : Nat} (hA : u64s 25 A) {c : Int} (hc : 0 ≤ c ∧ c ≤ 1000000) : g_keccak_Xof_Read ((true, (stOf 168 A P).1, 168, ((stOf 168 A P).2 : Int), c, ()), 3, ())
    = some ([outB 168 A P, outB 168 A (P + 1), outB 168 A (P + 2)], 0, (true, (stOf 168 A (P + 3)).1, 168, ((stOf 168 A (P + 3)).2 : Int), c + 3, ())) := by
  obtain ⟨h1, h2⟩ := stOf_ok (rate := 168) (by omega) hA P
  have := Spec_at (ks := p_keccak_Xof_Read_ks) (rs := p_keccak_Xof_Read_rs) (x := ((true, (stOf 168 A P).1, 168, ((stOf 168 A P).2 : Int), c, ()), 3, ()))
    (Q := fun x => x.1.1 = true ∧ 0 ≤ x.2.1 ∧ x.2.1 ≤ 1048576 ∧ okRate x.1.2.2.1 ∧ 0 ≤ x.1.2.2.2.1 ∧ x.1.2.2.2.1 ≤ x.1.2.2.1)
    (f := fun x => ((List.range x.2.1.toNat).map (fun k => outB x.1.2.2.1.toNat x.1.2.1 (x.1.2.2.2.1.toNat + k)), 0,
    (true, (stOf x.1.2.2.1.toNat x.1.2.1 (x.1.2.2.2.1.toNat + x.2.1.toNat)).1, x.1.2.2.1, ((stOf x.1.2.2.1.toNat x.1.2.1 (x.1.2.2.2.1.toNat + x.2.1.toNat)).2 : Int), IntKind.i64.wrap (x.1.2.2.2.2.1 + x.2.1), ())))
    ⟨wf_xf.2 ⟨h1, by omega, by omega, by omega⟩, (okInt_i64 (n := 3)).2 (by omega), trivial⟩ ⟨rfl, by show (0 : Int) ≤ 3; omega, by show (3 : Int) ≤ 1048576; omega, ⟨by show (8 : Int) ≤ 168; omega, by show (168 : Int) ≤ 200; omega⟩, by show (0 : Int) ≤ ((stOf 168 A P).2 : Int); omega, by show ((stOf 168 A P).2 : Int) ≤ 168; omega⟩
  refine Eq.trans this ?_
  have e : ∀ k, outB 168 (stOf 168 A P).1 ((stOf 168 A P).2 + k) = outB 168 A (P + k) := outB_st (by omega) A P
  have e2 := stOf_st (rate := 168) (by omega) A P 3 (by omega)
  show some ((List.range 3).map (fun k => outB 168 (stOf 168 A P).1 (((stOf 168 A P).2 : Int).toNat + k)), (0 : Int), (true, (stOf 168 (stOf 168 A P).1 (((stOf 168 A P).2 : Int).toNat + 3)).1, (168 : Int), ((stOf 168 (stOf 168 A P).1 (((stOf 168 A P).2 : Int).toNat + 3)).2 : Int), IntKind.i64.wrap (c + 3), ())) = _
  rw [Int.toNat_natCast, e2, wrap_i64 (by omega) (by omega)]
  simp only [e]
  rfl
theorem cand0 {x y : Int} (hx : 0 ≤ x ∧ x ≤ 255) (hy : 0 ≤ y ∧ y ≤ 255) : ior .u16 (IntKind.u16.wrap x) (ishl .u16 (IntKind.u16.wrap (iand .u8 y 15)) 8) = x + 256 * (y % 16) := by
  obtain ⟨x, rfl⟩ : ∃ m : Nat, x = m := ⟨x.toNat, by omega⟩
  obtain ⟨y, rfl⟩ : ∃ m : Nat, y = m := ⟨y.toNat, by omega⟩
  have e : iand .u8 (y : Int) 15 = ((y % 16 : Nat) : Int) := by
    rw [show (15 : Int) = ((15 : Nat) : Int) from rfl, iand_nat rfl (by simp [IntKind.bits]; omega) (by decide), show (15 : Nat) = 2 ^ 4 - 1 from rfl, Nat.and_two_pow_sub_one_eq_mod]
  rw [e, wrap_u16 (by omega) (by omega), wrap_u16 (by omega) (by omega), show (8 : Int) = ((8 : Nat) : Int) from rfl, ishl_nat rfl (by decide) (by simp [IntKind.bits]; omega), ior_nat rfl (by simp [IntKind.bits]; omega) (by simp [IntKind.bits]; omega)]
  have h := Nat.two_pow_add_eq_or_of_lt (i := 8) (b := x) (by omega) (y % 16)
  rw [Nat.or_comm, Nat.mul_comm (y % 16), ← h]
  omega
theorem cand1 {y w : Int} (hy : 0 ≤ y ∧ y ≤ 255) (hw : 0 ≤ w ∧ w ≤ 255) : ior .u16 (IntKind.u16.wrap (ishr .u8 y 4)) (ishl .u16 (IntKind.u16.wrap w) 4) = y / 16 + 16 * w := by
  obtain ⟨y, rfl⟩ : ∃ m : Nat, y = m := ⟨y.toNat, by omega⟩
  obtain ⟨w, rfl⟩ : ∃ m : Nat, w = m := ⟨w.toNat, by omega⟩
  rw [show (4 : Int) = ((4 : Nat) : Int) from rfl, ishr_nat (by decide), wrap_u16 (by omega) (by omega), wrap_u16 (by omega) (by omega), ishl_nat rfl (by decide) (by simp [IntKind.bits]; omega), ior_nat rfl (by simp [IntKind.bits]; omega) (by simp [IntKind.bits]; omega)]
  have h := Nat.two_pow_add_eq_or_of_lt (i := 4) (b := y / 2 ^ 4) (by omega) w
  rw [Nat.or_comm, Nat.mul_comm w, ← h]
  omega
theorem acc_pre (seed : List Int) (t : Nat) : ∀ d : Nat, ∃ r, accS seed (t + d) = accS seed t ++ r
  | 0 => ⟨[], by simp⟩
  | d + 1 => by
    obtain ⟨r, h⟩ := acc_pre seed t d
    exact ⟨r ++ (twoOf seed (t + d)).filter fun z => decide (z < 3329), by rw [← Nat.add_assoc, accS, h, List.append_assoc]⟩
theorem acc_took (seed : List Int) (t : Nat) : accS seed (t + 1) = took (accS seed t) (twoOf seed t) := rfl
theorem acc_full {seed : List Int} {t u : Nat} (h : t ≤ u) (h2 : 256 ≤ (accS seed t).length) : 256 ≤ (accS seed u).length ∧ (accS seed u).take 256 = (accS seed t).take 256 := by
  obtain ⟨r, e⟩ := acc_pre seed t (u - t)
  rw [show t + (u - t) = u by omega] at e
  rw [e]
  exact ⟨by simp; omega, by rw [List.take_append_of_le_length h2]⟩
def ntX (seed A : List Int) (t : Nat) : Int × Int × List Int × List Int × Bool × List Int × Int × Int × Int × Unit :=
  (((accS seed t).length : Int), (t : Int), z256, padL (accS seed t), true, (stOf 168 A (3 * t)).1, 168, ((stOf 168 A (3 * t)).2 : Int), 3 * (t : Int), ())
abbrev On := (List Int × Unit) ⊕ (Int × List Int × Unit)
theorem nt_step {seed A : List Int} (hA : A = absorb 168 31 (z25, 0) seed) (hAu : u64s 25 A) {t : Nat} (ht : t < 1024) (hL : (accS seed t).length < 256) {N : Nat} {β : Type} (kn : _ → Option β) (ke : On → Option β) :
    p_ring_SampleNtt_l7_F (N + 3) β (ntX seed A t) kn ke = if (accS seed (t + 1)).length < 256 then kn (ntX seed A (t + 1)) else ke (.inr (0, (accS seed (t + 1)).take 256, ())) := by
  have b0 := outB_b 168 A (3 * t)
  have b1 := outB_b 168 A (3 * t + 1)
  have b2 := outB_b 168 A (3 * t + 2)
  unfold p_ring_SampleNtt_l7_F ntX
  dsimp only
  rw [if_pos (by omega), at_Read3 hAu (by omega), Option.bind_some]
  dsimp only
  rw [if_neg (by omega), if_pos (by omega), if_pos (by simp), if_pos (by simp), if_pos (by omega), if_pos (by simp), if_pos (by simp), if_pos (by omega), if_pos (by simp), if_pos (by simp), if_pos (by omega), if_pos (by simp), if_pos (by simp)]
  have e : List.set (List.set (List.replicate 2 (0 : Int)) 0 (ior IntKind.u16 (IntKind.u16.wrap (outB 168 A (3 * t))) (ishl IntKind.u16 (IntKind.u16.wrap (iand IntKind.u8 (outB 168 A (3 * t + 1)) 15)) 8))) 1 (ior IntKind.u16 (IntKind.u16.wrap (ishr IntKind.u8 (outB 168 A (3 * t + 1)) 4)) (ishl IntKind.u16 (IntKind.u16.wrap (outB 168 A (3 * t + 2))) 4)) = twoOf seed t := by
    rw [cand0 b0 b1, cand1 b1 b2, hA]
    rfl
  show iter (p_ring_SampleNtt_l11_F (N + 3)) (N + 3) (((accS seed t).length : Int), (t : Int), List.set (List.set (List.replicate 2 (0 : Int)) 0 (ior IntKind.u16 (IntKind.u16.wrap (outB 168 A (3 * t))) (ishl IntKind.u16 (IntKind.u16.wrap (iand IntKind.u8 (outB 168 A (3 * t + 1)) 15)) 8))) 1 (ior IntKind.u16 (IntKind.u16.wrap (ishr IntKind.u8 (outB 168 A (3 * t + 1)) 4)) (ishl IntKind.u16 (IntKind.u16.wrap (outB 168 A (3 * t + 2))) 4)), (0 : Int), z256, padL (accS seed t), true, (stOf 168 A (3 * t + 3)).1, 168, ((stOf 168 A (3 * t + 3)).2 : Int), 3 * (t : Int) + 3, ()) _ = _
  rw [e]
  unfold twoOf
  refine (inner_all hL _).trans ?_
  rw [acc_took]
  unfold twoOf
  split
  · dsimp only
    rw [wrap_i64 (by omega) (by omega), show 3 * (t + 1) = 3 * t + 3 by omega, show ((t + 1 : Nat) : Int) = (t : Int) + 1 by omega, show 3 * ((t : Int) + 1) = 3 * (t : Int) + 3 by omega]
  · rfl
theorem nt_all {seed A : List Int} (hA : A = absorb 168 31 (z25, 0) seed) (hAu : u64s 25 A) {N : Nat} {β : Type} (k : On → Option β) : ∀ j t : Nat, t + j = 1024 → (accS seed t).length < 256 → ∀ n, j < n →
    iter (p_ring_SampleNtt_l7_F (N + 3)) n (ntX seed A t) k = if (accS seed 1024).length < 256 then k (.inl (z256, ())) else k (.inr (0, (accS seed 1024).take 256, ()))
  | 0, t, h, hL, n, hn => by
    obtain ⟨n, rfl⟩ : ∃ m, n = m + 1 := ⟨n - 1, by omega⟩
    have h : t = 1024 := by omega
    subst h
    rw [if_pos hL]
    simp only [iter]
    unfold p_ring_SampleNtt_l7_F ntX
    dsimp only
    rw [if_neg (by omega)]
  | j + 1, t, h, hL, n, hn => by
    obtain ⟨n, rfl⟩ : ∃ m, n = m + 1 := ⟨n - 1, by omega⟩
    simp only [iter]
    rw [nt_step hA hAu (by omega) hL]
    split
    · rename_i h2
      exact nt_all hA hAu k j (t + 1) (by omega) h2 n (by omega)
    · rename_i h2
      obtain ⟨q1, q2⟩ := acc_full (seed := seed) (t := t + 1) (u := 1024) (by omega) (by omega)
      rw [if_neg (by omega), q2]
theorem q_ring_SampleNtt : ∀ x r, g_ring_SampleNtt x = some r → ∃ N, p_ring_SampleNtt N x = some r := by
  refine Spec_of (ks := p_ring_SampleNtt_ks) (rs := p_ring_SampleNtt_rs) fun x hw hq => ⟨1025 + 3, ?_⟩
  obtain ⟨(l : List Int), u⟩ := x
  have hl := wf_bytes.1 hw.1
  unfold p_ring_SampleNtt sampleS
  dsimp only
  by_cases h : l.length = 34
  · rw [if_neg (by omega), if_neg (by omega)]
    have hM : 1 ≤ maxLen := by decide
    have hp : partsOk [l] := ⟨by simp only [List.length_cons, List.length_nil]; omega, fun zs hz => by rw [List.mem_singleton.1 hz]; exact hl⟩
    have ef : [l].flatten = l := by simp
    have e := at_Shake128 hp
    rw [ef] at e
    rw [e, Option.bind_some]
    have hAu : u64s 25 (absorb 168 31 (z25, 0) l) := absorb_u ⟨z25_u, by show 0 < 168; omega⟩ _ _
    have hst : stOf 168 (absorb 168 31 (z25, 0) l) (3 * 0) = (absorb 168 31 (z25, 0) l, 0) := stOf_small _ (by omega) (by omega)
    have hx : ntX l (absorb 168 31 (z25, 0) l) 0 = ((0 : Int), (0 : Int), z256, z256, true, absorb 168 31 (z25, 0) l, 168, 0, 0, ()) := by
      unfold ntX; rw [hst]; rfl
    show iter (p_ring_SampleNtt_l7_F (1025 + 3)) (1025 + 3) ((0 : Int), (0 : Int), z256, z256, true, absorb 168 31 (z25, 0) l, 168, 0, 0, ()) _ = _
    rw [← hx]
    refine (nt_all rfl hAu _ 1024 0 (by omega) (by show 0 < 256; omega) _ (by omega)).trans ?_
    generalize accS l 1024 = L
    by_cases g : L.length < 256
    · rw [if_pos g, if_pos g]
    · rw [if_neg g, if_neg g]
  · rw [if_pos (by omega), if_pos h]
theorem spS_len (rate : Nat) (e : Int) (l : List Int) (n : Nat) : (spongeS rate e l n).length = n := by simp [spongeS]
theorem at_Read {rate : Nat} (hr : 8 ≤ rate ∧ rate ≤ 200) {A : List Int} {P n : Nat} (hA : u64s 25 A) (hn : n ≤ 1048576) {c : Int} (hc : 0 ≤ c ∧ c ≤ 1000000) : g_keccak_Xof_Read ((true, (stOf rate A P).1, (rate : Int), ((stOf rate A P).2 : Int), c, ()), (n : Int), ())
    = some ((List.range n).map (fun k => outB rate A (P + k)), 0, (true, (stOf rate A (P + n)).1, (rate : Int), ((stOf rate A (P + n)).2 : Int), c + n, ())) := by
  obtain ⟨h1, h2⟩ := stOf_ok (rate := rate) (by omega) hA P
  have := Spec_at (ks := p_keccak_Xof_Read_ks) (rs := p_keccak_Xof_Read_rs) (x := ((true, (stOf rate A P).1, (rate : Int), ((stOf rate A P).2 : Int), c, ()), (n : Int), ()))
    (Q := fun x => x.1.1 = true ∧ 0 ≤ x.2.1 ∧ x.2.1 ≤ 1048576 ∧ okRate x.1.2.2.1 ∧ 0 ≤ x.1.2.2.2.1 ∧ x.1.2.2.2.1 ≤ x.1.2.2.1)
    (f := fun x => ((List.range x.2.1.toNat).map (fun k => outB x.1.2.2.1.toNat x.1.2.1 (x.1.2.2.2.1.toNat + k)), 0,
    (true, (stOf x.1.2.2.1.toNat x.1.2.1 (x.1.2.2.2.1.toNat + x.2.1.toNat)).1, x.1.2.2.1, ((stOf x.1.2.2.1.toNat x.1.2.1 (x.1.2.2.2.1.toNat + x.2.1.toNat)).2 : Int), IntKind.i64.wrap (x.1.2.2.2.2.1 + x.2.1), ())))
    ⟨wf_xf.2 ⟨h1, by omega, by omega, by omega⟩, (okInt_i64 (n := (n : Int))).2 (by omega), trivial⟩ ⟨rfl, by show (0 : Int) ≤ n; omega, by show (n : Int) ≤ 1048576; omega, ⟨by show (8 : Int) ≤ rate; omega, by show (rate : Int) ≤ 200; omega⟩, by show (0 : Int) ≤ ((stOf rate A P).2 : Int); omega, by show ((stOf rate A P).2 : Int) ≤ rate; omega⟩
  refine Eq.trans this ?_
  have e : ∀ k, outB rate (stOf rate A P).1 ((stOf rate A P).2 + k) = outB rate A (P + k) := outB_st (by omega) A P
  show some ((List.range (n : Int).toNat).map (fun k => outB (rate : Int).toNat (stOf rate A P).1 (((stOf rate A P).2 : Int).toNat + k)), (0 : Int), (true, (stOf (rate : Int).toNat (stOf rate A P).1 (((stOf rate A P).2 : Int).toNat + (n : Int).toNat)).1, (rate : Int), ((stOf (rate : Int).toNat (stOf rate A P).1 (((stOf rate A P).2 : Int).toNat + (n : Int).toNat)).2 : Int), IntKind.i64.wrap (c + n), ())) = _
  simp only [Int.toNat_natCast, e]
  rw [wrap_i64 (by omega) (by omega)]
  by_cases hn0 : n = 0
  · subst hn0
    simp only [Nat.add_zero]
    have : stOf rate (stOf rate A P).1 (stOf rate A P).2 = stOf rate A P := by
      have h := Nat.div_eq_of_lt (show (stOf rate A P).2 - 1 < rate by omega)
      show (perms (((stOf rate A P).2 - 1) / rate) (stOf rate A P).1, (stOf rate A P).2 - ((stOf rate A P).2 - 1) / rate * rate) = _
      rw [h]
      simp [perms]
    rw [this]
  · rw [stOf_st (rate := rate) (by omega) A P n (by omega)]
theorem q_keccak_Shake256 : ∀ x r, g_keccak_Shake256 x = some r → ∃ N, p_keccak_Shake256 N x = some r := by
  refine Spec_of (ks := p_keccak_Shake256_ks) (rs := p_keccak_Shake256_rs) fun x hw hq => ⟨0, ?_⟩
  obtain ⟨(parts : List (List Int)), u⟩ := x
  have hp : partsOk parts := wf_parts.1 hw.1
  unfold p_keccak_Shake256
  refine (congrArg (fun o => Option.bind o _) (at_started (rate := 136) (by omega) hp)).trans ?_
  rw [Option.bind_some]
  rfl
theorem at_Shake256 {parts : List (List Int)} (hl : partsOk parts) : g_keccak_Shake256 (parts, ()) = some (true, absorb 136 31 (z25, 0) parts.flatten, 136, 0, 0, ()) :=
  Spec_at (ks := p_keccak_Shake256_ks) (rs := p_keccak_Shake256_rs) (x := (parts, ())) ⟨wf_parts.2 hl, trivial⟩ trivial
theorem absorb_uu (rate : Nat) (hr : 0 < rate) (e : Int) (l : List Int) : u64s 25 (absorb rate e (z25, 0) l) := absorb_u ⟨z25_u, by show 0 < rate; omega⟩ _ _
theorem at_Read0 {rate : Nat} (hr : 8 ≤ rate ∧ rate ≤ 200) {l : List Int} {n : Nat} (hn : n ≤ 1048576) : ∃ y, g_keccak_Xof_Read ((true, absorb rate 31 (z25, 0) l, (rate : Int), 0, 0, ()), (n : Int), ()) = some (spongeS rate 31 l n, 0, y) := by
  have h := at_Read hr (P := 0) (n := n) (absorb_uu rate (by omega) 31 l) hn (c := 0) (by omega)
  have hst : stOf rate (absorb rate 31 (z25, 0) l) 0 = (absorb rate 31 (z25, 0) l, 0) := stOf_small _ (by omega) (by omega)
  rw [hst] at h
  refine ⟨(true, (stOf rate (absorb rate 31 (z25, 0) l) (0 + n)).1, (rate : Int), ((stOf rate (absorb rate 31 (z25, 0) l) (0 + n)).2 : Int), 0 + (n : Int), ()), h.trans ?_⟩
  simp only [Nat.zero_add]
  rfl
theorem q_keccak_Shake : ∀ x r, g_keccak_Shake x = some r → ∃ N, p_keccak_Shake N x = some r := by
  refine Spec_of (ks := p_keccak_Shake_ks) (rs := p_keccak_Shake_rs) fun x hw hq => ⟨0, ?_⟩
  obtain ⟨(b : Int), (n : Int), (parts : List (List Int)), u⟩ := x
  have hp : partsOk parts := wf_parts.1 hw.2.2.1
  obtain ⟨hb, hn0, hn1⟩ : (b = 128 ∨ b = 256) ∧ 0 ≤ n ∧ n ≤ 1048576 := hq
  obtain ⟨m, rfl⟩ : ∃ m : Nat, n = m := ⟨n.toNat, by omega⟩
  unfold p_keccak_Shake
  dsimp only
  rcases hb with rfl | rfl
  · obtain ⟨y, e⟩ := at_Read0 (rate := 168) (by omega) (l := parts.flatten) (n := m) (by omega)
    rw [if_neg (by simp), at_may (by omega), Option.bind_some, if_neg (by simp), if_pos rfl, at_Shake128 hp, Option.bind_some]
    refine (congrArg (fun o => Option.bind o _) e).trans ?_
    rfl
  · obtain ⟨y, e⟩ := at_Read0 (rate := 136) (by omega) (l := parts.flatten) (n := m) (by omega)
    rw [if_pos (by omega), if_neg (by simp), at_may (by omega), Option.bind_some, if_neg (by simp), if_neg (by omega), at_Shake256 hp, Option.bind_some]
    refine (congrArg (fun o => Option.bind o _) e).trans ?_
    rfl
theorem at_Shake {b : Int} (hb : b = 128 ∨ b = 256) {n : Nat} (hn : n ≤ 1048576) {parts : List (List Int)} (hl : partsOk parts) : g_keccak_Shake (b, (n : Int), parts, ()) = some (spongeS (if b = 128 then 168 else 136) 31 parts.flatten n, 0) := by
  have := Spec_at (ks := p_keccak_Shake_ks) (rs := p_keccak_Shake_rs) (x := (b, (n : Int), parts, ())) (Q := fun x => (x.1 = 128 ∨ x.1 = 256) ∧ 0 ≤ x.2.1 ∧ x.2.1 ≤ 1048576) (f := fun x => (spongeS (if x.1 = 128 then 168 else 136) 31 x.2.2.1.flatten x.2.1.toNat, 0))
    ⟨okInt_i64.2 (by show _ ≤ b ∧ b ≤ _; omega), (okInt_i64 (n := (n : Int))).2 (by omega), wf_parts.2 hl, trivial⟩ ⟨hb, by show (0 : Int) ≤ n; omega, by show (n : Int) ≤ 1048576; omega⟩
  exact this
end Go.Ax.TryP
