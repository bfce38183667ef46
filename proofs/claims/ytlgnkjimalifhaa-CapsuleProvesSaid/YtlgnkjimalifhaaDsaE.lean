/- A part of the proof: DgS, DgP, DgQ1, DgQ3, DgQ4, DgQ5, DgQ7, DgQ8. -/
import Derived.Test.YtlgnkjimalifhaaDsaD
set_option linter.unusedVariables false
namespace Go.Ax.TryP
open Go.Proofs
noncomputable def cif {α : Type} (p : Prop) (a b : α) : α := @ite α p (Classical.propDecidable p) a b
theorem c9C {α : Type} {p : Prop} (h : p) (a b : α) : cif p a b = a := by unfold cif; exact if_pos h
theorem c9B {α : Type} {p : Prop} (h : ¬ p) (a b : α) : cif p a b = b := by unfold cif; exact if_neg h
def b3E (b : List Int) (a n : Nat) : List Int := (b.drop a).take n
def d57 (c w e : List Int) (r : Nat) : List Int := c3Z (chD w r) (d4O c (chD e r))
def d6h (c l : List Int) (r : Nat) : List Int := d4O c (chD l r)
def htD (c w e l : List Int) (r : Nat) : List Int × Int := d5X (c3Z d4K (d6h c l r)) (c8e (d57 c w e r) (d6h c l r))
def hrow (c w e l : List Int) : List Int := a4O (fun r => (htD c w e l r).1) 6
def zV (sig : List Int) (i : Nat) : List Int := a8R 524288 20 (b3E sig (48 + 640 * i) 640)
def d5N (sig : List Int) : Prop := ∀ i, i < 5 → c9O (zV sig i) < 524092
def tV (pk : List Int) (r : Nat) : List Int := x7 fun i => (c7J 10 (b3E pk (32 + 320 * r) 320)).getD i 0 * 8192
def upV (pk h c m z : List Int) (r : Nat) : List Int := d3w (chD h r) (c3Y (c3Z (c11 m z r 5) (b3Q (a2P c) (a2P (tV pk r)))))
noncomputable def hV (sig : List Int) : List Int × Int := b0J 6 55 (b3E sig 3248 61)
def muV (pk msg ctx : List Int) : List Int := c7i (a9c pk 64) msg ctx
noncomputable def chV (pk msg ctx sig : List Int) : List Int := c5q (muV pk msg ctx) (a4O (upV pk (hV sig).1 (b8R 49 (b3E sig 0 48)).1 (d01 (b3E pk 0 32)) (a4O (zV sig) 5)) 6)
noncomputable def d0V (pk msg ctx sig : List Int) : Int :=
 if pk.length ≠ 1952 then 161 else if 255 < ctx.length then 3 else if sig.length ≠ 3309 then 70 else
 cif (¬ d5N sig) 70 (if (hV sig).2 ≠ 0 then 70 else if (b8R 49 (b3E sig 0 48)).2 ≠ 0 then (b8R 49 (b3E sig 0 48)).2 else
 cif (¬ b7c (b3E pk 0 32)) 130 (if chV pk msg ctx sig ≠ b3E sig 0 48 then 70 else 0))
noncomputable def a3L : List Int × List Int × List Int × List Int × Unit → Option Int := P0 (ks := [.sl (.int .u8), .sl (.int .u8), .sl (.int .u8), .sl (.int .u8)]) (rs := [.int .i64]) (fun _ => True) fun x => d0V x.1 x.2.1 x.2.2.1 x.2.2.2.1
def d6o (xi : List Int) : List Int := a9c (xi ++ [6, 5]) 128
def d6p (xi : List Int) (i : Nat) : List Int × Int := d6q 4 (b3E (d6o xi) 32 64 ++ d6w (i : Int))
def eK (xi : List Int) : List Int := a4O (fun i => (d6p xi (5 + i)).1) 6
end Go.Ax.TryP
set_option linter.unusedVariables false
namespace Go.Ax.TryP
open Go.Proofs
noncomputable abbrev b2d : Sig := ⟨[.sl b8, .sl b8, .sl b8], [.sl b8], a48⟩
noncomputable abbrev a2e : Sig := ⟨[.int .i32, .int .i64, .sl b8], [.xs b32 256, .int .i64], L8⟩
noncomputable abbrev a9x : Sig := ⟨[.xs b32 256], [.int .i32], a52⟩
noncomputable abbrev a1H : Sig := ⟨[.int .i64, .int .i64, .sl b8], [.sla .bool 256, .int .i64], I4⟩
noncomputable abbrev a9w : Sig := ⟨[.int .i64, .sl b8], [.xs b32 256, .int .i64], a51⟩
noncomputable abbrev a1I : Sig := ⟨[.rp (.xs b32 7680), .xs b32 1280], [.xs b32 1536], S7⟩
noncomputable abbrev b2c : Sig := ⟨[.xs b32 256, .xs b32 256], [.xs b32 256], a8c⟩
noncomputable abbrev b2b : Sig := ⟨[.xs b32 256], [.xs b32 256], a8b⟩
noncomputable abbrev a4S : Sig := ⟨[.xs .bool 256, .xs b32 256], [.xs b32 256], a0c⟩
noncomputable abbrev a4U : Sig := ⟨[.sl b8, .xs b32 1536], [.sl b8], a2k⟩
noncomputable abbrev a9E : Sig := ⟨[.sl b8, .sl b8], [.bool], a56⟩
noncomputable abbrev a9B : XSig := ⟨[.sl b8], [.op [.xs b32 7680]], (.ifi 31 .i64), a3M⟩
noncomputable def p_dsa_Verify_E : AE := AE.ofA [(21, ty21), (26, ty26), (31, ty31), (38, ty38), (53, ty53), (55, ty55), (60, ty60), (66, ty66), (74, ty74)] [(19, a20), (18, b2d), (22, a2e), (23, a9x), (24, a1H), (26, a9w), (25, a4R), (28, a1I), (29, a00), (32, a0Z), (31, b2c), (30, b2b), (33, a4S), (35, a4U), (34, a9E)] [(27, a9B)] [(17, b1S)] [] [(21, a7n), (43, a9R), (20, c34)] [] [] [] [] [] []
noncomputable def a3A : Hints := [(12, [4, 7, 8, 9, 10, 11, 39]), (26, [4, 8, 9, 10, 13, 15, 17, 18, 73]), (30, [4, 8, 9, 10, 13, 15, 17, 18, 19, 20, 73, 81]), (2000000, [4, 7, 8, 9, 10, 11]), (2000001, [4, 7, 8, 9, 10, 11, 39]), (2000002, [8, 9, 10, 18]), (2000003, [4, 8, 9, 10, 13, 15, 17, 18, 73]), (2000004, [4, 8, 9, 10, 13, 15, 17, 18, 19, 20, 73]), (2000005, [4, 8, 9, 10, 13, 15, 17, 18, 19, 20, 73, 81]), (3000000, [8]), (5000000, [8])]
noncomputable def O5 : Code := (Try.f8).body.getD .skip
noncomputable def b4J : Shape := mkS { tmps := pv 4 (.sc (.ptr 1 0 false) :: V :: V :: .sc (.ptr 2 0 false) :: .sc (.ptr 0 0 false) :: .sc (.vec 3 none 1) :: .sc (.sl 4 (some 0) (some 48) none 1) :: .sc (.ptr 5 0 false) :: pv 27 (.sc (.int .i64) :: pv 74 [])), mem := [.live [.xs b64 (some 1)] (.own), .live [.one (.vec 6 none 1)] (.own), .live [.one (.sl 4 none none none 1)] (.own), .live [.xs b8 none] (.own), .live [.xs b8 none] (.ro), .live [.xs b32 (some 1280)] (.own), .live [.xs b8 none] (.ro)], dfr := [(17, [.ptr 0 0 false])] } [.nat, .nat, .int, .xs, .nat, .nat, .nat, .nat, .nat, .xs, .nat, .xs, .xs, .nat, .xs]
abbrev W43 : Type := Nat × Nat × Int × List Int × Nat × Nat × Nat × Nat × Nat × List Int × Nat × List Int × List Int × Nat × List Int × Unit
abbrev W44 : Type := (Int × List Int × Unit) ⊕ ((List Int × Unit) ⊕ (Nat × Nat × List Int × Nat × Nat × Nat × Nat × Nat × List Int × Nat × List Int × List Int × Nat × List Int × Unit))
noncomputable def u7 (N : Nat) (β : Type) (x : W43) (kn : W43 → Option β) (ke : W44 → Option β) : Option β :=
 if (x.2.2.1 < (5:Int)) then
  if 0 ≤ (640:Int) then (
  if (640:Int) ≤ ((x.2.2.2.2.2.2.1 : Nat) : Int) then (
  if 0 ≤ (640:Int) then (
  if (640:Int) ≤ ((x.2.2.2.2.2.2.1 : Nat) : Int) then (
  (L8 ((524288:Int), (20:Int), (List.take 640 (List.drop (c0I x.2.2.2.2.2.1 0) x.2.2.2.2.2.2.2.2.2.2.2.1)), ())).bind fun r3 => (
  if (r3.2 ≠ (0:Int)) then
   ke (.inl (r3.2, x.2.2.2.1, ()))
  else
   if 0 ≤ x.2.2.1 then (
   if x.2.2.1 < 5 then (
   if ((x.2.2.1.toNat) * 256) + 256 ≤ 1280 then (
   if 0 ≤ x.2.2.1 then (
   if x.2.2.1 < 5 then (
   if ((x.2.2.1.toNat) * 256) + 256 ≤ 1280 then (
   (a52 ((List.take 256 (List.drop ((x.2.2.1.toNat) * 256) (List.take ((x.2.2.1.toNat) * 256) x.2.2.2.2.2.2.2.2.2.2.2.2.1 ++ r3.1 ++ List.drop (((x.2.2.1.toNat) * 256) + 256) x.2.2.2.2.2.2.2.2.2.2.2.2.1))), ())).bind fun r4 => (
   if (r4 ≥ (524092:Int)) then
    ke (.inr (.inl ((List.set x.2.2.2.1 0 (70:Int)), ())))
   else
    kn (x.1, x.2.1, (IntKind.i64.wrap (x.2.2.1 + (1:Int))), x.2.2.2.1, x.2.2.2.2.1, (c0I x.2.2.2.2.2.1 640), (x.2.2.2.2.2.2.1 - 640), (x.2.2.2.2.2.2.2.1 - 640), x.2.2.2.2.2.2.2.2.1, x.2.2.2.2.2.2.2.2.2.1, x.2.2.2.2.2.2.2.2.2.2.1, x.2.2.2.2.2.2.2.2.2.2.2.1, (List.take ((x.2.2.1.toNat) * 256) x.2.2.2.2.2.2.2.2.2.2.2.2.1 ++ r3.1 ++ List.drop (((x.2.2.1.toNat) * 256) + 256) x.2.2.2.2.2.2.2.2.2.2.2.2.1), x.2.2.2.2.2.2.2.2.2.2.2.2.2.1, x.2.2.2.2.2.2.2.2.2.2.2.2.2.2.1, ()))) else none) else none) else none) else none) else none) else none)) else none) else none) else none) else none
 else
  ke (.inr (.inr (x.1, x.2.1, x.2.2.2.1, x.2.2.2.2.1, x.2.2.2.2.2.1, x.2.2.2.2.2.2.1, x.2.2.2.2.2.2.2.1, x.2.2.2.2.2.2.2.2.1, x.2.2.2.2.2.2.2.2.2.1, x.2.2.2.2.2.2.2.2.2.2.1, x.2.2.2.2.2.2.2.2.2.2.2.1, x.2.2.2.2.2.2.2.2.2.2.2.2.1, x.2.2.2.2.2.2.2.2.2.2.2.2.2.1, x.2.2.2.2.2.2.2.2.2.2.2.2.2.2.1, ())))
noncomputable def b2Y : Go' W44 := fun y K => match y with
 | .inl y => K (.pan (.ifi 31 .i64) y.1) (fSt { tmps := pv 8 (.sc (.ptr 0 0 false) :: pv 105 []), mem := [.live [.xs b64 (some 1)] (.own)], dfr := [(17, [.ptr 0 0 false])] } [.xs] y.2)
 | .inr (.inl y) => K .ret (fSt { tmps := pv 8 (.sc (.ptr 0 0 false) :: pv 105 []), mem := [.live [.xs b64 (some 1)] (.own)], dfr := [(17, [.ptr 0 0 false])] } [.xs] y)
 | .inr (.inr y) => K (.exit 0) (fSt { tmps := pv 4 (.sc (.ptr 1 0 false) :: V :: V :: .sc (.ptr 2 0 false) :: .sc (.ptr 0 0 false) :: .sc (.vec 3 none 1) :: .sc (.sl 4 (some 0) (some 48) none 1) :: .sc (.ptr 5 0 false) :: pv 102 []), mem := [.live [.xs b64 (some 1)] (.own), .live [.one (.vec 6 none 1)] (.own), .live [.one (.sl 4 none none none 1)] (.own), .live [.xs b8 none] (.own), .live [.xs b8 none] (.ro), .live [.xs b32 (some 1280)] (.own), .live [.xs b8 none] (.ro)], dfr := [(17, [.ptr 0 0 false])] } [.nat, .nat, .xs, .nat, .nat, .nat, .nat, .nat, .xs, .nat, .xs, .xs, .nat, .xs] y)
noncomputable def a6h (N : Nat) : LT := upd (LT.nil) 12 (C6 b4J N (u7 N) b2Y)
theorem b2Z (N : Nat) : OkAll p_dsa_Verify_E a3A N (a6h N) (E4 O5) :=
 d8 (c := d9 12 O5) (OkAll.nil) (by kernel_rfl) (fun x => by kernel_rfl) (fun β x kn ke => by kernel_rfl)
noncomputable def b4L : Shape := mkS { tmps := pv 4 (.sc (.ptr 1 0 false) :: pv 3 (.sc (.ptr 0 0 false) :: .sc (.vec 2 none 1) :: .sc (.sl 3 (some 0) (some 48) none 1) :: V :: V :: .sc (.vec 4 none 256) :: V :: .sc (.ptr 5 0 false) :: V :: .sc (.ptr 6 0 false) :: .sc (.ptr 7 0 false) :: .sc (.int .i64) :: .sc (.ptr 8 0 false) :: pv 52 (.sc (.int .i64) :: pv 7 (.sc (.int .i64) :: pv 32 [])))), mem := [.live [.xs b64 (some 1)] (.own), .live [.one (.sl 9 none none none 1)] (.own), .live [.xs b8 none] (.own), .live [.xs b8 none] (.ro), .live [.xs .bool none] (.own), .live [.xs b32 (some 256)] (.own), .live [.xs b32 (some 1536)] (.own), .live [.xs b32 (some 1536)] (.own), .live [.xs b32 (some 256)] (.own), .live [.xs b8 none] (.ro)], dfr := [(17, [.ptr 0 0 false])] } [.nat, .nat, .nat, .int, .int, .int, .xs, .nat, .nat, .nat, .nat, .xs, .nat, .xs, .nat, .xs, .xs, .xs, .xs, .xs, .nat, .xs]
abbrev W45 : Type := Nat × Nat × Nat × Int × Int × Int × List Int × Nat × Nat × Nat × Nat × List Int × Nat × List Int × Nat × List Int × List Int × List Int × List Int × List Int × Nat × List Int × Unit
abbrev W46 : Type := Nat × Nat × Nat × Int × Int × List Int × Nat × Nat × Nat × Nat × List Int × Nat × List Int × Nat × List Int × List Int × List Int × List Int × List Int × Nat × List Int × Unit
noncomputable def G0 (N : Nat) (β : Type) (x : W45) (kn : W45 → Option β) (ke : W46 → Option β) : Option β :=
 if (x.2.2.2.2.2.1 < (256:Int)) then
  if 0 ≤ x.2.2.2.2.2.1 then (
  if x.2.2.2.2.2.1 < 256 then (
  if (x.2.2.2.2.2.1.toNat) < 256 then (
  if 0 ≤ x.2.2.2.2.2.1 then (
  if x.2.2.2.2.2.1 < 256 then (
  if (x.2.2.2.2.2.1.toNat) < 256 then (
  kn (x.1, x.2.1, x.2.2.1, x.2.2.2.1, x.2.2.2.2.1, (IntKind.i64.wrap (x.2.2.2.2.2.1 + (1:Int))), x.2.2.2.2.2.2.1, x.2.2.2.2.2.2.2.1, x.2.2.2.2.2.2.2.2.1, x.2.2.2.2.2.2.2.2.2.1, x.2.2.2.2.2.2.2.2.2.2.1, x.2.2.2.2.2.2.2.2.2.2.2.1, x.2.2.2.2.2.2.2.2.2.2.2.2.1, x.2.2.2.2.2.2.2.2.2.2.2.2.2.1, x.2.2.2.2.2.2.2.2.2.2.2.2.2.2.1, x.2.2.2.2.2.2.2.2.2.2.2.2.2.2.2.1, x.2.2.2.2.2.2.2.2.2.2.2.2.2.2.2.2.1, x.2.2.2.2.2.2.2.2.2.2.2.2.2.2.2.2.2.1, x.2.2.2.2.2.2.2.2.2.2.2.2.2.2.2.2.2.2.1, (List.set x.2.2.2.2.2.2.2.2.2.2.2.2.2.2.2.2.2.2.2.1 (x.2.2.2.2.2.1.toNat) (b1X IntKind.i32 (List.getD x.2.2.2.2.2.2.2.2.2.2.2.2.2.2.2.2.2.2.2.1 (x.2.2.2.2.2.1.toNat) 0) (13:Int))), x.2.2.2.2.2.2.2.2.2.2.2.2.2.2.2.2.2.2.2.2.1, x.2.2.2.2.2.2.2.2.2.2.2.2.2.2.2.2.2.2.2.2.2.1, ())) else none) else none) else none) else none) else none) else none
 else
  ke (x.1, x.2.1, x.2.2.1, x.2.2.2.1, x.2.2.2.2.1, x.2.2.2.2.2.2.1, x.2.2.2.2.2.2.2.1, x.2.2.2.2.2.2.2.2.1, x.2.2.2.2.2.2.2.2.2.1, x.2.2.2.2.2.2.2.2.2.2.1, x.2.2.2.2.2.2.2.2.2.2.2.1, x.2.2.2.2.2.2.2.2.2.2.2.2.1, x.2.2.2.2.2.2.2.2.2.2.2.2.2.1, x.2.2.2.2.2.2.2.2.2.2.2.2.2.2.1, x.2.2.2.2.2.2.2.2.2.2.2.2.2.2.2.1, x.2.2.2.2.2.2.2.2.2.2.2.2.2.2.2.2.1, x.2.2.2.2.2.2.2.2.2.2.2.2.2.2.2.2.2.1, x.2.2.2.2.2.2.2.2.2.2.2.2.2.2.2.2.2.2.1, x.2.2.2.2.2.2.2.2.2.2.2.2.2.2.2.2.2.2.2.1, x.2.2.2.2.2.2.2.2.2.2.2.2.2.2.2.2.2.2.2.2.1, x.2.2.2.2.2.2.2.2.2.2.2.2.2.2.2.2.2.2.2.2.2.1, ())
noncomputable def b22 : Go' W46 := fun y K => K (.exit 4) (fSt { tmps := pv 4 (.sc (.ptr 1 0 false) :: pv 3 (.sc (.ptr 0 0 false) :: .sc (.vec 2 none 1) :: .sc (.sl 3 (some 0) (some 48) none 1) :: V :: V :: .sc (.vec 4 none 256) :: V :: .sc (.ptr 5 0 false) :: V :: .sc (.ptr 6 0 false) :: .sc (.ptr 7 0 false) :: .sc (.int .i64) :: .sc (.ptr 8 0 false) :: pv 52 (.sc (.int .i64) :: pv 40 []))), mem := [.live [.xs b64 (some 1)] (.own), .live [.one (.sl 9 none none none 1)] (.own), .live [.xs b8 none] (.own), .live [.xs b8 none] (.ro), .live [.xs .bool none] (.own), .live [.xs b32 (some 256)] (.own), .live [.xs b32 (some 1536)] (.own), .live [.xs b32 (some 1536)] (.own), .live [.xs b32 (some 256)] (.own), .live [.xs b8 none] (.ro)], dfr := [(17, [.ptr 0 0 false])] } [.nat, .nat, .nat, .int, .int, .xs, .nat, .nat, .nat, .nat, .xs, .nat, .xs, .nat, .xs, .xs, .xs, .xs, .xs, .nat, .xs] y)
noncomputable def a6j (N : Nat) : LT := upd (a6h N) 30 (C6 b4L N (G0 N) b22)
theorem b23 (N : Nat) : OkAll p_dsa_Verify_E a3A N (a6j N) (E4 O5) :=
 d8 (c := d9 30 O5) (b2Z N) (by kernel_rfl) (fun x => by kernel_rfl) (fun β x kn ke => by kernel_rfl)
noncomputable def b4K : Shape := mkS { tmps := pv 4 (.sc (.ptr 1 0 false) :: pv 3 (.sc (.ptr 0 0 false) :: .sc (.vec 2 none 1) :: .sc (.sl 3 (some 0) (some 48) none 1) :: V :: V :: .sc (.vec 4 none 256) :: V :: .sc (.ptr 5 0 false) :: V :: .sc (.ptr 6 0 false) :: .sc (.ptr 7 0 false) :: pv 54 (.sc (.int .i64) :: pv 40 []))), mem := [.live [.xs b64 (some 1)] (.own), .live [.one (.sl 8 none none none 1)] (.own), .live [.xs b8 none] (.own), .live [.xs b8 none] (.ro), .live [.xs .bool none] (.own), .live [.xs b32 (some 256)] (.own), .live [.xs b32 (some 1536)] (.own), .live [.xs b32 (some 1536)] (.own), .live [.xs b8 none] (.ro)], dfr := [(17, [.ptr 0 0 false])] } [.nat, .nat, .nat, .int, .xs, .nat, .nat, .nat, .nat, .xs, .nat, .xs, .nat, .xs, .xs, .xs, .xs, .nat, .xs]
abbrev W47 : Type := Nat × Nat × Nat × Int × List Int × Nat × Nat × Nat × Nat × List Int × Nat × List Int × Nat × List Int × List Int × List Int × List Int × Nat × List Int × Unit
abbrev W48 : Type := (Int × List Int × Unit) ⊕ (Nat × Nat × List Int × Nat × List Int × Nat × List Int × List Int × Unit)
noncomputable def F9 (N : Nat) (β : Type) (x : W47) (kn : W47 → Option β) (ke : W48 → Option β) : Option β :=
 if (x.2.2.2.1 < (6:Int)) then
  if 0 ≤ (320:Int) then (
  if (320:Int) ≤ ((x.2.2.2.2.2.2.1 : Nat) : Int) then (
  if 0 ≤ (320:Int) then (
  if (320:Int) ≤ ((x.2.2.2.2.2.2.1 : Nat) : Int) then (
  (Y0 ((10:Int), (List.take 320 (List.drop (c0I x.2.2.2.2.2.1 0) x.2.2.2.2.2.2.2.2.2.2.2.2.2.2.2.2.2.2.1)), ())).bind fun r14 => (
  if (r14.2 ≠ (0:Int)) then
   ke (.inl (r14.2, x.2.2.2.2.1, ()))
  else
   E1 (G0 N) N (x.1, x.2.1, x.2.2.1, x.2.2.2.1, x.2.2.2.1, (0:Int), x.2.2.2.2.1, (c0I x.2.2.2.2.2.1 320), (x.2.2.2.2.2.2.1 - 320), (x.2.2.2.2.2.2.2.1 - 320), x.2.2.2.2.2.2.2.2.1, x.2.2.2.2.2.2.2.2.2.1, x.2.2.2.2.2.2.2.2.2.2.1, x.2.2.2.2.2.2.2.2.2.2.2.1, x.2.2.2.2.2.2.2.2.2.2.2.2.1, x.2.2.2.2.2.2.2.2.2.2.2.2.2.1, x.2.2.2.2.2.2.2.2.2.2.2.2.2.2.1, x.2.2.2.2.2.2.2.2.2.2.2.2.2.2.2.1, x.2.2.2.2.2.2.2.2.2.2.2.2.2.2.2.2.1, r14.1, x.2.2.2.2.2.2.2.2.2.2.2.2.2.2.2.2.2.1, x.2.2.2.2.2.2.2.2.2.2.2.2.2.2.2.2.2.2.1, ()) fun y15 => (
   if 0 ≤ y15.2.2.2.1 then (
   if y15.2.2.2.1 < 6 then (
   if ((y15.2.2.2.1.toNat) * 256) + 256 ≤ 1536 then (
   (a24 (y15.2.2.2.2.2.2.2.2.2.2.2.2.2.2.2.2.2.2.1, ())).bind fun r16 => (
   (a05 (y15.2.2.2.2.2.2.2.2.2.2.2.2.2.2.2.1, r16, ())).bind fun r17 => (
   (a8c ((List.take 256 (List.drop ((y15.2.2.2.1.toNat) * 256) y15.2.2.2.2.2.2.2.2.2.2.2.2.2.2.2.2.1)), r17, ())).bind fun r18 => (
   (a8b (r18, ())).bind fun r19 => (
   if 0 ≤ y15.2.2.2.1 then (
   if y15.2.2.2.1 < ((y15.2.2.1 : Nat) : Int) then (
   if ((y15.2.2.2.1.toNat) * 256) + 256 ≤ y15.2.2.2.2.2.2.2.2.2.2.2.2.2.1 then (
   (a0c ((List.take 256 (List.drop ((y15.2.2.2.1.toNat) * 256) y15.2.2.2.2.2.2.2.2.2.2.2.2.2.2.1)), r19, ())).bind fun r20 => (
   if 0 ≤ y15.2.2.2.1 then (
   if y15.2.2.2.1 < 6 then (
   if ((y15.2.2.2.1.toNat) * 256) + 256 ≤ 1536 then (
   kn (y15.1, y15.2.1, y15.2.2.1, (IntKind.i64.wrap (y15.2.2.2.2.1 + (1:Int))), y15.2.2.2.2.2.1, y15.2.2.2.2.2.2.1, y15.2.2.2.2.2.2.2.1, y15.2.2.2.2.2.2.2.2.1, y15.2.2.2.2.2.2.2.2.2.1, y15.2.2.2.2.2.2.2.2.2.2.1, y15.2.2.2.2.2.2.2.2.2.2.2.1, y15.2.2.2.2.2.2.2.2.2.2.2.2.1, y15.2.2.2.2.2.2.2.2.2.2.2.2.2.1, y15.2.2.2.2.2.2.2.2.2.2.2.2.2.2.1, y15.2.2.2.2.2.2.2.2.2.2.2.2.2.2.2.1, y15.2.2.2.2.2.2.2.2.2.2.2.2.2.2.2.2.1, (List.take ((y15.2.2.2.1.toNat) * 256) y15.2.2.2.2.2.2.2.2.2.2.2.2.2.2.2.2.2.1 ++ r20 ++ List.drop (((y15.2.2.2.1.toNat) * 256) + 256) y15.2.2.2.2.2.2.2.2.2.2.2.2.2.2.2.2.2.1), y15.2.2.2.2.2.2.2.2.2.2.2.2.2.2.2.2.2.2.2.1, y15.2.2.2.2.2.2.2.2.2.2.2.2.2.2.2.2.2.2.2.2.1, ())) else none) else none) else none)) else none) else none) else none))))) else none) else none) else none))) else none) else none) else none) else none
 else
  ke (.inr (x.1, x.2.1, x.2.2.2.2.1, x.2.2.2.2.2.2.2.2.1, x.2.2.2.2.2.2.2.2.2.1, x.2.2.2.2.2.2.2.2.2.2.1, x.2.2.2.2.2.2.2.2.2.2.2.1, x.2.2.2.2.2.2.2.2.2.2.2.2.2.2.2.2.1, ()))
noncomputable def b20 : Go' W48 := fun y K => match y with
 | .inl y => K (.pan (.ifi 31 .i64) y.1) (fSt { tmps := pv 8 (.sc (.ptr 0 0 false) :: pv 105 []), mem := [.live [.xs b64 (some 1)] (.own)], dfr := [(17, [.ptr 0 0 false])] } [.xs] y.2)
 | .inr y => K (.exit 2) (fSt { tmps := pv 8 (.sc (.ptr 0 0 false) :: .sc (.vec 1 none 1) :: .sc (.sl 2 (some 0) (some 48) none 1) :: pv 7 (.sc (.ptr 3 0 false) :: pv 95 [])), mem := [.live [.xs b64 (some 1)] (.own), .live [.xs b8 none] (.own), .live [.xs b8 none] (.ro), .live [.xs b32 (some 1536)] (.own)], dfr := [(17, [.ptr 0 0 false])] } [.nat, .nat, .xs, .nat, .xs, .nat, .xs, .xs] y)
noncomputable def a6i (N : Nat) : LT := upd (a6j N) 26 (C6 b4K N (F9 N) b20)
theorem b21 (N : Nat) : OkAll p_dsa_Verify_E a3A N (a6i N) (E4 O5) :=
 d8 (c := d9 26 O5) (b23 N) (by kernel_rfl) (fun x => by kernel_rfl) (fun β x kn ke => by kernel_rfl)
abbrev a0q : List Kd := [.sl b8, .sl b8, .sl b8, .sl b8]
abbrev a5o : List Kd := [.int .i64]
noncomputable def a3T (N : Nat) (x : List Int × List Int × List Int × List Int × Unit) : Option (Int) :=
 if ((((List.length x.1) : Nat) : Int) ≠ (1952:Int)) then
  some (List.getD (List.set [0] 0 (161:Int)) 0 0)
 else
  if ((((List.length x.2.2.1) : Nat) : Int) > (255:Int)) then
   some (List.getD (List.set [0] 0 (3:Int)) 0 0)
  else
   if ((((List.length x.2.2.2.1) : Nat) : Int) ≠ (3309:Int)) then
    some (List.getD (List.set [0] 0 (70:Int)) 0 0)
   else
    (a25 ((64:Int), [x.1], ())).bind fun r1 => (
    (a48 (r1, x.2.1, x.2.2.1, ())).bind fun r2 => (
    if 0 ≤ (48:Int) then (
    if (48:Int) ≤ (((List.length x.2.2.2.1) : Nat) : Int) then (
    if 0 ≤ (48:Int) then (
    if (48:Int) ≤ (((List.length x.2.2.2.1) : Nat) : Int) then (
    E1 (u7 N) N ((List.length r2), (List.length x.2.2.2.1), (0:Int), [0], (List.length x.1), 48, ((List.length x.2.2.2.1) - 48), ((List.length x.2.2.2.1) - 48), (List.length r2), r2, (List.length x.2.2.2.1), x.2.2.2.1, (List.replicate 1280 0), (List.length x.1), x.1, ()) fun y => (match y with
    | .inl y5 => (
     some (List.getD (List.set y5.2.1 0 y5.1) 0 0))
    | .inr (.inl y6) => (
     some (List.getD y6.1 0 0))
    | .inr (.inr y7) => (
     (I4 ((6:Int), (55:Int), (List.take y7.2.2.2.2.2.1 (List.drop y7.2.2.2.2.1 y7.2.2.2.2.2.2.2.2.2.2.1)), ())).bind fun r8 => (
     if (r8.2 ≠ (0:Int)) then
      some (List.getD (List.set y7.2.2.1 0 (70:Int)) 0 0)
     else
      (a51 ((49:Int), (List.take 48 (List.drop 0 y7.2.2.2.2.2.2.2.2.2.2.1)), ())).bind fun r9 => (
      if (r9.2 ≠ (0:Int)) then
       some (List.getD (List.set y7.2.2.1 0 r9.2) 0 0)
      else
       (a24 (r9.1, ())).bind fun r10 => (
       if 0 ≤ (32:Int) then (
       if (32:Int) ≤ ((y7.2.2.2.1 : Nat) : Int) then (
       if 0 ≤ (32:Int) then (
       if (32:Int) ≤ ((y7.2.2.2.1 : Nat) : Int) then (
       (a3M ((List.take 32 (List.drop 0 y7.2.2.2.2.2.2.2.2.2.2.2.2.2.1)), ())).bind fun r11 => (
       if r11.1 = true then
        some (List.getD (List.set y7.2.2.1 0 r11.2.1) 0 0)
       else
        (xg (a3M ((List.take 32 (List.drop 0 y7.2.2.2.2.2.2.2.2.2.2.2.2.2.1)), ()))).bind fun r12 => (
        (S7 (r12.1, y7.2.2.2.2.2.2.2.2.2.2.2.1, ())).bind fun r13 => (
        E1 (F9 N) N (y7.1, y7.2.1, (List.length r8.1 / 256), (0:Int), y7.2.2.1, 32, (y7.2.2.2.1 - 32), (y7.2.2.2.1 - 32), y7.2.2.2.2.2.2.2.1, y7.2.2.2.2.2.2.2.2.1, y7.2.2.2.2.2.2.2.2.2.1, y7.2.2.2.2.2.2.2.2.2.2.1, (List.length r8.1), r8.1, r10, r13, (List.replicate 1536 0), y7.2.2.2.2.2.2.2.2.2.2.2.2.1, y7.2.2.2.2.2.2.2.2.2.2.2.2.2.1, ()) fun y => (match y with
        | .inl y21 => (
         some (List.getD (List.set y21.2.1 0 y21.1) 0 0))
        | .inr y22 => (
         (a2k (y22.2.2.2.2.1, y22.2.2.2.2.2.2.2.1, ())).bind fun r23 => (
         (a56 (r23, (List.take 48 (List.drop 0 y22.2.2.2.2.2.2.1)), ())).bind fun r24 => (
         if (¬ (r24 = true)) then
          some (List.getD (List.set y22.2.2.1 0 (70:Int)) 0 0)
         else
          some (List.getD (List.set y22.2.2.1 0 (0:Int)) 0 0))))))))) else none) else none) else none) else none)))))) else none) else none) else none) else none))
theorem b75 (e0 : b6 Try.prog 19 a20) (e1 : b6 Try.prog 18 b2d) (e2 : b6 Try.prog 22 a2e) (e3 : b6 Try.prog 23 a9x) (e4 : b6 Try.prog 24 a1H) (e5 : b6 Try.prog 26 a9w) (e6 : b6 Try.prog 25 a4R) (e7 : b6 Try.prog 28 a1I) (e8 : b6 Try.prog 29 a00) (e9 : b6 Try.prog 32 a0Z) (e10 : b6 Try.prog 31 b2c) (e11 : b6 Try.prog 30 b2b) (e12 : b6 Try.prog 33 a4S) (e13 : b6 Try.prog 35 a4U) (e14 : b6 Try.prog 34 a9E) (e15 : XOk Try.prog 27 a9B) : p_dsa_Verify_E.Ok Try.prog := AE.ofA_ok (all_cons G6 (all_cons w7 (all_cons c6z (all_cons a1Z (all_cons G7 (all_cons c6B (all_cons d0P (all_cons c6C (all_cons c6D b5))))))))) (all_cons ⟨e0, a46⟩ (all_cons ⟨e1, b7y⟩ (all_cons ⟨e2, a77⟩ (all_cons ⟨e3, b5I⟩ (all_cons ⟨e4, a7g⟩ (all_cons ⟨e5, b5H⟩ (all_cons ⟨e6, a8W⟩ (all_cons ⟨e7, a7i⟩ (all_cons ⟨e8, a43⟩ (all_cons ⟨e9, a42⟩ (all_cons ⟨e10, b7x⟩ (all_cons ⟨e11, b7w⟩ (all_cons ⟨e12, b08⟩ (all_cons ⟨e13, b1a⟩ (all_cons ⟨e14, b5P⟩ b5))))))))))))))) (all_cons ⟨e15, b5N⟩ b5) (all_cons ⟨b5C, b5M⟩ b5) b5 (all_cons ⟨a4v, Z9⟩ (all_cons ⟨a58, a3o⟩ (all_cons ⟨c35, c0K⟩ b5))) b5 b5 b5 b5
theorem b9V (hE : p_dsa_Verify_E.Ok Try.prog) {g : Ds a0q → Option (Rs [.int .i64])} (hg : ∀ x r, g x = some r → ∃ N, a3T N x = some r) : b6 Try.prog 8 ⟨a0q, [.int .i64], g⟩ :=
 d6 (E := p_dsa_Verify_E) (H := a3A) (L := fun N => a6i N) (c := O5) (ks := a0q) (rs := a5o) (F := a3T) hE mix Try.func8 (by kernel_rfl) (fun N => b21 N) (fun _ _ => by kernel_rfl) hg
end Go.Ax.TryP
set_option linter.unusedVariables false
namespace Go.Ax.TryP
open Go.Proofs
theorem b3F {b : List Int} {a n : Nat} (h : a + n ≤ b.length) : (b3E b a n).length = n := by
 unfold b3E
 rw [List.length_take, List.length_drop]
 omega
theorem a7e {b : List Int} (h : bytes b) (a n : Nat) : bytes (b3E b a n) := fun z hz => h z (List.mem_of_mem_drop (List.mem_of_mem_take hz))
theorem d5w {t : Int} {w : Nat} (ht : 0 ≤ t ∧ t ≤ 8380417) (hw : w ≤ 23) (b : List Int) : a2c 256 (a8R t w b) := by
 refine rows.range fun i _ => ?_
 have h := d0f b i hw
 unfold d0e at h
 omega
end Go.Ax.TryP
set_option linter.unusedVariables false
namespace Go.Ax.TryP
open Go.Proofs
theorem d3b {mu h : List Int} (hm : mu.length ≤ 1000 ∧ bytes mu) (hh : a2c (6 * 256) h) (hw : ∀ r, r < 6 → inW 4 (a03 (chD h r))) : a2k (mu, h, ()) = some (c5q mu h) :=
 c7 (ks := N3) (rs := N4) (x := (mu, h, ())) ⟨a4h.2 ⟨mB (by have := hm.1; exact Nat.le_trans this (by decide)), hm.2⟩, Y3.2 hh, trivial⟩ ⟨hm.1, hw⟩
theorem d1a {b : List Int} (hb : b.length ≤ 1000 ∧ bytes b) : a51 (49, b, ()) = some (b8R 49 b) :=
 c7 (ks := a0h) (rs := a0i) (x := (49, b, ())) ⟨d3D (by omega), a4h.2 ⟨mB (by have := hb.1; exact Nat.le_trans this (by decide)), hb.2⟩, trivial⟩ hb.1
theorem b6Z (l : List Int) (n : Nat) : (a9c l n).length = n := d0D _ _ _ _
theorem c29 (l : List Int) (n : Nat) : bytes (a9c l n) := d59 _ _ _ _
theorem c9A (mu h : List Int) : (c5q mu h).length = 48 := b6Z _ _
theorem d3m (mu h : List Int) : bytes (c5q mu h) := c29 _ _
def c5n (z : Int) : Prop := z = 0 ∨ z = 1 ∨ z = 8380416
theorem c9r {c : List Int} (h : ∀ z ∈ c, c5n z) (i : Nat) : c5n (c.getD i 0) := by
 by_cases hi : i < c.length
 ·rw [List.getD_eq_getElem?_getD, List.getElem?_eq_getElem hi]
  exact h _ (List.getElem_mem hi)
 ·rw [List.getD_eq_getElem?_getD, List.getElem?_eq_none (by omega)]
  exact .inl rfl
theorem d1l {s : List Int} {n i a : Nat} {c : List Int} (h : c.length = 256 ∧ ∀ z ∈ c, c5n z) : (c3J s n i a c).length = 256 ∧ ∀ z ∈ c3J s n i a c, c5n z := by
 unfold c3J
 refine ⟨by rw [List.length_set, List.length_set, h.1], fun z hz => ?_⟩
 rcases List.mem_or_eq_of_mem_set hz with hz | hz
 ·rcases List.mem_or_eq_of_mem_set hz with hz | hz
  ·exact h.2 z hz
  ·rw [hz]; exact c9r h.2 _
 ·rw [hz]
  split
  ·exact .inr (.inr rfl)
  ·exact .inr (.inl rfl)
theorem c6H : z256.length = 256 ∧ ∀ z ∈ z256, c5n z := ⟨by rw [z256, List.length_replicate], fun z hz => .inl (List.eq_of_mem_replicate hz)⟩
theorem c6S (tau : Nat) (s : List Int) : ∀ {k : Nat} {c : List Int} {p : Nat}, b5B tau s k = some (c, p) → c.length = 256 ∧ ∀ z ∈ c, c5n z
 | 0, c, p, h => by
  simp only [b5B] at h
  cases h
  exact c6H
 | k + 1, c, p, h => by
  simp only [b5B] at h
  split at h
  ·cases h
  ·rename_i c0 p0 hk
   split at h
   ·cases h
   ·cases h
    exact d1l (c6S tau s hk)
theorem c6T (s : List Int) : (b8R 49 s).1.length = 256 ∧ ∀ z ∈ (b8R 49 s).1, c5n z := by
 unfold b8R
 split
 ·exact c6H
 ·split
  ·exact c6H
  ·rename_i c p hk
   exact c6S _ s hk
theorem d3j (s : List Int) : a2c 256 (b8R 49 s).1 := ⟨(c6T s).1, fun z hz => by rcases (c6T s).2 z hz with h | h | h <;> omega⟩
end Go.Ax.TryP
set_option linter.unusedVariables false
namespace Go.Ax.TryP
open Go.Proofs
theorem c8z {f : Nat → List Int} {z : List Int} {n i : Nat} (hf : ∀ j, j < n → (f j).length = 256) (hi : i < n) : List.take 256 (List.drop (i * 256) (a4G f z (i + 1))) = f i := by
 unfold a4G
 exact c5Q (a4K fun j hj => hf j (by omega)) (hf i hi)
end Go.Ax.TryP
set_option linter.unusedVariables false
namespace Go.Ax.TryP
open Go.Proofs
end Go.Ax.TryP
set_option linter.unusedVariables false
namespace Go.Ax.TryP
open Go.Proofs
theorem d5P (sig : List Int) (i : Nat) : a2c 256 (zV sig i) := d5w (by omega) (by omega) _
theorem d6m {sig : List Int} (hl : sig.length = 3309) (hb : bytes sig) {L1 L2 : Nat} {mu Z pk : List Int} (hZ : Z.length = 5 * 256) {β : Type} (K : _ → Option β) :
  (d5N sig → E1 (u7 300) 300 (L1, 3309, (0 : Int), [0], L2, 48, 3261, 3261, L1, mu, 3309, sig, Z, L2, pk, ()) K = K (.inr (.inr (L1, 3309, [0], L2, 3248, 61, 61, L1, mu, 3309, sig, a4O (zV sig) 5, L2, pk, ())))) ∧
  (¬ d5N sig → E1 (u7 300) 300 (L1, 3309, (0 : Int), [0], L2, 48, 3261, 3261, L1, mu, 3309, sig, Z, L2, pk, ()) K = K (.inr (.inl (List.set [0] 0 (70 : Int), ())))) := by
 have h := d1K (F := u7 300) (K := K) (fun i => (L1, 3309, (i : Int), [0], L2, 48 + 640 * i, 3261 - 640 * i, 3261 - 640 * i, L1, mu, 3309, sig, a4G (zV sig) Z i, L2, pk, ())) (fun i => c9O (zV sig i) < 524092) (.inr (.inl (List.set [0] 0 (70 : Int), ()))) (.inr (.inr (L1, 3309, [0], L2, 3248, 61, 61, L1, mu, 3309, sig, a4O (zV sig) 5, L2, pk, ()))) 5
  (fun i hi kn => by
   have e1 : L8 ((524288 : Int), (20 : Int), List.take 640 (List.drop (48 + 640 * i) sig), ()) = some (zV sig i, 0) :=
    c17 (n := 20) (t := 524288) (b := b3E sig (48 + 640 * i) 640) (by omega) ⟨by omega, by omega, by rw [b3F (by omega)]⟩ (a7e hb _ _)
   have e3 := d27 (d5P sig i)
   have hs := b45 (f := zV sig) hZ (fun j _ => (d5P sig j).1) hi
   have hg := c8z (f := zV sig) (z := Z) (n := 5) (fun j _ => (d5P sig j).1) hi
   constructor
   ·intro hlt
    unfold u7
    dsimp only
    rw [if_pos (by omega), if_pos (by omega), if_pos (by omega), if_pos (by omega), if_pos (by omega), a1L, Nat.add_zero, e1, Option.bind_some, if_neg (by simp), if_pos (by omega), if_pos (by omega), if_pos (by omega), if_pos (by omega), if_pos (by omega), if_pos (by omega), Int.toNat_natCast, hs, hg, e3, Option.bind_some, if_neg (by omega), a1L, b7 (by omega) (by omega), show 48 + 640 * i + 640 = 48 + 640 * (i + 1) by omega, show 3261 - 640 * i - 640 = 3261 - 640 * (i + 1) by omega, show (i : Int) + 1 = ((i + 1 : Nat) : Int) by omega]
   ·intro hlt
    unfold u7
    dsimp only
    rw [if_pos (by omega), if_pos (by omega), if_pos (by omega), if_pos (by omega), if_pos (by omega), a1L, Nat.add_zero, e1, Option.bind_some, if_neg (by simp), if_pos (by omega), if_pos (by omega), if_pos (by omega), if_pos (by omega), if_pos (by omega), if_pos (by omega), Int.toNat_natCast, hs, hg, e3, Option.bind_some, if_pos (by omega)])
  (fun kn => by
   unfold u7
   dsimp only
   rw [if_neg (by omega), b0q hZ]) 5 0 300 (by omega) (by omega)
 rw [a7O] at h
 exact ⟨fun hh => h.1 fun r _ hr6 => hh r hr6, fun hh => h.2 fun hh' => hh fun r hr6 => hh' r (Nat.zero_le _) hr6⟩
theorem d6z {A : List Int} (hA : A.length = 256) (hb : ∀ z ∈ A, 0 ≤ z ∧ z < 1024) {a1 a2 a3 : Nat} {i1 i2 : Int} {l1 : List Int} {a4 a5 a6 a7 : Nat} {l2 : List Int} {a8 : Nat} {l3 : List Int} {a9 : Nat} {l4 l5 l6 l7 : List Int} {a10 : Nat} {l8 : List Int} {β : Type} (K : _ → Option β) :
  E1 (G0 300) 300 (a1, a2, a3, i1, i2, (0 : Int), l1, a4, a5, a6, a7, l2, a8, l3, a9, l4, l5, l6, l7, A, a10, l8, ()) K = K (a1, a2, a3, i1, i2, l1, a4, a5, a6, a7, l2, a8, l3, a9, l4, l5, l6, l7, (List.range 256).map (fun i => A.getD i 0 * 8192), a10, l8, ()) := by
 refine j6 (F := G0 300) (s := fun i => (a1, a2, a3, i1, i2, (i : Int), l1, a4, a5, a6, a7, l2, a8, l3, a9, l4, l5, l6, l7, part (fun i => A.getD i 0 * 8192) i A, a10, l8, ())) (y := (a1, a2, a3, i1, i2, l1, a4, a5, a6, a7, l2, a8, l3, a9, l4, l5, l6, l7, (List.range 256).map (fun i => A.getD i 0 * 8192), a10, l8, ())) 256 (by rw [b47]; rfl) ?_ ?_ 300 (by omega)
 ·intro i hi kn
  have hv : 0 ≤ A.getD i 0 ∧ A.getD i 0 < 1024 := hb _ (a57 (by omega))
  obtain ⟨m, hm⟩ : ∃ m : Nat, A.getD i 0 = m := ⟨(A.getD i 0).toNat, by omega⟩
  have e : b1X .i32 ((part (fun i => A.getD i 0 * 8192) i A).getD i 0) (13 : Int) = A.getD i 0 * 8192 := by
   rw [b46 (Nat.le_refl i), hm]
   refine (b8D (m := m) (s := 13) (by decide) (by omega)).trans ?_
   omega
  unfold G0
  dsimp only
  rw [if_pos (by omega), if_pos (by omega), if_pos (by omega), if_pos (by omega), if_pos (by omega), if_pos (by omega), if_pos (by omega), Int.toNat_natCast, e, F6 (h := fun i => A.getD i 0 * 8192) (by omega) rfl, b7 (by omega) (by omega)]
  rfl
 ·intro kn
  unfold G0
  dsimp only
  rw [if_neg (by omega), N9 hA]
theorem d5v (b : List Int) : ∀ z ∈ c7J 10 b, 0 ≤ z ∧ z < 1024 := by
 intro z hz
 obtain ⟨i, _, rfl⟩ := List.mem_map.1 hz
 have h := c10 (n := 10) (c := fun k => b8S b (i * 10 + k)) fun s _ => c2a b _
 have e : (2 : Int) ^ 10 = 1024 := by decide
 omega
theorem d6v (pk : List Int) (r : Nat) : a2c 256 (tV pk r) := by
 refine rows.range fun i hi => ?_
 have := d5v (b3E pk (32 + 320 * r) 320) _ (a57 (i := i) (by unfold c7J; rw [b3G]; exact hi))
 omega
theorem d4Q (h r : List Int) : a2c 256 (d3w h r) := rows.range fun i _ => by
 have := d3u (r.getD i 0)
 unfold b5r
 split
 ·split <;> omega
 ·omega
theorem d3x (h r : List Int) : inW 4 (a03 (d3w h r)) := by
 intro i hi
 rw [c8g hi, show (d3w h r).getD i 0 = b5r (h.getD i 0) (r.getD i 0) from a0B hi]
 have := d3u (r.getD i 0)
 have h4 : (2 : Int) ^ 4 = 16 := by decide
 unfold b5r
 split
 ·split <;> omega
 ·omega
theorem d4c (pk h c m z : List Int) (r : Nat) : a2c 256 (upV pk h c m z r) := d4Q _ _
theorem d6y {pk : List Int} (hl : pk.length = 1952) (hb : bytes pk) {H c m z High : List Int} (hc : a2c 256 c) (hH : H.length = 6 * 256) (hH1 : ∀ x ∈ H, x = 0 ∨ x = 1) (hHi : High.length = 6 * 256) {L1 L3 : Nat} {mu sig : List Int} {β : Type} (K : _ → Option β) :
  E1 (F9 300) 300 (L1, L3, 6, (0 : Int), [0], 32, 1920, 1920, L1, mu, L3, sig, 6 * 256, H, a2P c, b6S m z, High, 1952, pk, ()) K = K (.inr (L1, L3, [0], L1, mu, L3, sig, a4O (upV pk H c m z) 6, ())) := by
 refine j6 (F := F9 300) (s := fun i => (L1, L3, 6, (i : Int), [0], 32 + 320 * i, 1920 - 320 * i, 1920 - 320 * i, L1, mu, L3, sig, 6 * 256, H, a2P c, b6S m z, a4G (upV pk H c m z) High i, 1952, pk, ())) (y := .inr (L1, L3, [0], L1, mu, L3, sig, a4O (upV pk H c m z) 6, ())) 6 (by rw [a7O]; rfl) ?_ ?_ 300 (by omega)
 ·intro i hi kn
  have e1 : Y0 ((10 : Int), List.take 320 (List.drop (32 + 320 * i) pk), ()) = some (c7J 10 (b3E pk (32 + 320 * i) 320), 0) :=
   c3B (n := 10) (b := b3E pk (32 + 320 * i) 320) ⟨by omega, by omega, by rw [b3F (by omega)]⟩ (a7e hb _ _)
  have hR : ∀ j, j < 6 → (c11 m z j 5).length = 256 := fun j _ => (b00 m z j 5).1
  have e2 : List.take 256 (List.drop (i * 256) (b6S m z)) = c11 m z i 5 := c2g (f := fun r => c11 m z r 5) hR hi
  have e3 := c5g (d6v pk i)
  have e4 := c3x (c2o c) (c2o (tV pk i))
  have e5 := d4z (b00 m z i 5) (c1A (a2P c) (a2P (tV pk i)))
  have e6 := d26 (c9N (c11 m z i 5) (b3Q (a2P c) (a2P (tV pk i))))
  have hh : (chD H i).length = 256 ∧ ∀ x ∈ chD H i, x = 0 ∨ x = 1 := ⟨c2f hH hi, fun x hx => hH1 x (List.mem_of_mem_drop (List.mem_of_mem_take hx))⟩
  have e7 : a0c (List.take 256 (List.drop (i * 256) H), c3Y (c3Z (c11 m z i 5) (b3Q (a2P c) (a2P (tV pk i)))), ()) = some (upV pk H c m z i) := d4A hh (d3t _)
  have hs := b45 (f := upV pk H c m z) hHi (fun j _ => (d4c pk H c m z j).1) hi
  have e8 : (List.range 256).map (fun j => (c7J 10 (b3E pk (32 + 320 * i) 320)).getD j 0 * 8192) = tV pk i := rfl
  unfold F9
  dsimp only
  rw [if_pos (by omega), if_pos (by omega), if_pos (by omega), if_pos (by omega), if_pos (by omega), a1L, Nat.add_zero, e1, Option.bind_some, if_neg (by simp), a1L]
  refine (d6z (by unfold c7J; rw [b3G]) (d5v _) _).trans ?_
  dsimp only
  rw [e8, if_pos (by omega), if_pos (by omega), if_pos (by omega), e3, Option.bind_some, e4, Option.bind_some, Int.toNat_natCast, e2, e5, Option.bind_some, e6, Option.bind_some, if_pos (by omega), if_pos (by omega), if_pos (by omega), e7, Option.bind_some, if_pos (by omega), if_pos (by omega), if_pos (by omega), hs, b7 (by omega) (by omega), show 32 + 320 * i + 320 = 32 + 320 * (i + 1) by omega, show 1920 - 320 * i - 320 = 1920 - 320 * (i + 1) by omega, show (i : Int) + 1 = ((i + 1 : Nat) : Int) by omega]
 ·intro kn
  unfold F9
  dsimp only
  rw [if_neg (by omega), b0q hHi]
end Go.Ax.TryP
set_option linter.unusedVariables false
namespace Go.Ax.TryP
open Go.Proofs
theorem c7R {b : List Int} (hb : b.length ≤ maxLen ∧ bytes b) : I4 (6, 55, b, ()) = some (b0J 6 55 b) :=
 c7 (ks := C8) (rs := C9) (x := (6, 55, b, ())) ⟨d3D (d := 6) (by omega), d3D (d := 55) (by omega), a4h.2 hb, trivial⟩ trivial
theorem c83 {b : List Int} (h : (b0J 6 55 b).2 = 0) : (b0J 6 55 b).1.length = 6 * 256 ∧ ∀ x ∈ (b0J 6 55 b).1, x = 0 ∨ x = 1 := by
 unfold b0J at h ⊢
 split at h
 ·cases h
 ·rename_i h1
  rw [if_neg h1]
  split at h
  ·rename_i h2
   rw [if_pos h2]
   refine ⟨?_, fun x hx => ?_⟩
   ·show (b2x b _ _ _).length = _
    rw [c33, List.length_replicate]
    rfl
   ·obtain ⟨i, hi, rfl⟩ := List.mem_iff_getElem.1 hx
    have hx : (b2x b (55 : Int).toNat (List.replicate ((6 : Int).toNat * 256) 0) (6 : Int).toNat).getD i 0 = 0 ∨ (b2x b (55 : Int).toNat (List.replicate ((6 : Int).toNat * 256) 0) (6 : Int).toNat).getD i 0 = 1 := c7a (fun j => .inl (by
     by_cases hj : j < (6 : Int).toNat * 256
     ·rw [List.getD_eq_getElem?_getD, List.getElem?_replicate, if_pos hj]; rfl
     ·rw [List.getD_eq_getElem?_getD, List.getElem?_replicate, if_neg hj]; rfl)) _ i
    rw [List.getD_eq_getElem?_getD, List.getElem?_eq_getElem hi, Option.getD_some] at hx
    exact hx
  ·cases h
theorem c4D : ∀ x r, a3L x = some r → ∃ N, a3T N x = some r := by
 refine c8 (ks := a0q) (rs := a5o) fun x hw hq => ⟨300, ?_⟩
 obtain ⟨(pk : List Int), (msg : List Int), (ctx : List Int), (sig : List Int), u⟩ := x
 have hpk : pk.length ≤ maxLen ∧ bytes pk := a4h.1 hw.1
 have hmsg : msg.length ≤ maxLen ∧ bytes msg := a4h.1 hw.2.1
 have hctx : ctx.length ≤ maxLen ∧ bytes ctx := a4h.1 hw.2.2.1
 have hsig : sig.length ≤ maxLen ∧ bytes sig := a4h.1 hw.2.2.2.1
 show a3T 300 (pk, msg, ctx, sig, u) = some (d0V pk msg ctx sig)
 unfold a3T d0V
 dsimp only
 have hZ5 : (List.replicate 1280 (0 : Int)).length = 5 * 256 := by rw [List.length_replicate]
 have hZ6 : (List.replicate 1536 (0 : Int)).length = 6 * 256 := by rw [List.length_replicate]
 generalize List.replicate 1280 (0 : Int) = Z5 at hZ5 ⊢
 generalize List.replicate 1536 (0 : Int) = Z6 at hZ6 ⊢
 by_cases h1 : pk.length = 1952
 ·rw [if_neg (c := pk.length ≠ 1952) (fun h => h h1), if_neg (by omega)]
  by_cases h2 : 255 < ctx.length
  ·rw [if_pos (c := 255 < ctx.length) h2, if_pos (by omega)]; rfl
  ·rw [if_neg (c := 255 < ctx.length) h2, if_neg (by omega)]
   by_cases h3 : sig.length = 3309
   ·rw [if_neg (c := sig.length ≠ 3309) (fun h => h h3), if_neg (by omega)]
    have e1 : a25 ((64 : Int), [pk], ()) = some (a9c pk 64) := by
     have e := c5k (n := 64) (l := [pk]) (by omega) ⟨mB (by simp), fun zs hzs => by rw [List.mem_singleton.1 hzs]; exact hpk⟩
     refine e.trans ?_
     simp
    have e2 : a48 (a9c pk 64, msg, ctx, ()) = some (muV pk msg ctx) := d1h ⟨mB (by rw [b6Z]; omega), c29 _ _⟩ hmsg hctx
    have hmu : (muV pk msg ctx).length = 64 ∧ bytes (muV pk msg ctx) := ⟨b6Z _ _, c29 _ _⟩
    rw [e1, Option.bind_some, e2, Option.bind_some, if_pos (by omega), if_pos (by omega), if_pos (by omega), if_pos (by omega), h3, show 3309 - 48 = 3261 from rfl]
    unfold chV
    generalize muV pk msg ctx = mu at hmu ⊢
    by_cases h4 : d5N sig
    ·refine ((d6m (L1 := mu.length) (L2 := pk.length) (mu := mu) (pk := pk) h3 hsig.2 hZ5 _).1 h4).trans ?_
     dsimp only
     rw [c9B (fun h => h h4)]
     have e3 : I4 ((6 : Int), (55 : Int), List.take 61 (List.drop 3248 sig), ()) = some (hV sig) := c7R (b := b3E sig 3248 61) ⟨mB (by rw [b3F (by omega)]; omega), a7e hsig.2 _ _⟩
     rw [e3, Option.bind_some]
     have hok : (hV sig).2 = 0 → (hV sig).1.length = 6 * 256 ∧ ∀ x ∈ (hV sig).1, x = 0 ∨ x = 1 := c83
     generalize hV sig = hh at hok ⊢
     obtain ⟨H, e⟩ := hh
     dsimp only at hok ⊢
     by_cases h5 : e = 0
     ·rw [if_neg (fun h => h h5), if_neg (fun h => h h5)]
      obtain ⟨hH, hH1⟩ := hok h5
      have hct : (b3E sig 0 48).length = 48 ∧ bytes (b3E sig 0 48) := ⟨b3F (by omega), a7e hsig.2 _ _⟩
      rw [show List.take 48 (List.drop 0 sig) = b3E sig 0 48 from rfl, show List.take 32 (List.drop 0 pk) = b3E pk 0 32 from rfl]
      generalize hG : b3E sig 0 48 = ct at hct ⊢
      rw [d1a ⟨by omega, hct.2⟩, Option.bind_some]
      have hci := d3j ct
      generalize b8R 49 ct = b at hci ⊢
      obtain ⟨c, e2⟩ := b
      have hci : a2c 256 c := hci
      dsimp only
      by_cases h6 : e2 = 0
      ·rw [if_neg (fun h => h h6), if_neg (fun h => h h6), c5g hci, Option.bind_some, if_pos (by omega), if_pos (by omega), if_pos (by omega), if_pos (by omega)]
       have hrho : (b3E pk 0 32).length = 32 ∧ bytes (b3E pk 0 32) := ⟨b3F (by omega), a7e hpk.2 _ _⟩
       rw [c9l hrho, Option.bind_some]
       have hmi := d45 (b3E pk 0 32)
       by_cases h7 : b7c (b3E pk 0 32)
       ·rw [c3I h7, if_neg (by simp), c9B (fun h => h h7)]
        generalize d01 (b3E pk 0 32) = m at hmi ⊢
        have hzi : a2c (5 * 256) (a4O (zV sig) 5) := c21 (d5P sig) 5
        generalize a4O (zV sig) 5 = z at hzi ⊢
        rw [show xg (some (false, (130 : Int), (m, ()))) = some (m, ()) from rfl, Option.bind_some, c9o hmi hzi, Option.bind_some, hH, h1, show 6 * 256 / 256 = 6 from rfl]
        refine (d6y (L1 := mu.length) (L3 := 3309) (mu := mu) (sig := sig) h1 hpk.2 hci hH hH1 hZ6 _).trans ?_
        dsimp only
        have hup : a2c (6 * 256) (a4O (upV pk H c m z) 6) := c21 (d4c pk H c m z) 6
        have hin : ∀ r, r < 6 → inW 4 (a03 (chD (a4O (upV pk H c m z) 6) r)) := fun r hr => by
         rw [c2g (f := upV pk H c m z) (fun j _ => (d4c pk H c m z j).1) hr]
         exact d3x _ _
        generalize a4O (upV pk H c m z) 6 = High at hup hin ⊢
        rw [d3b ⟨by omega, hmu.2⟩ hup hin, Option.bind_some, show List.take 48 (List.drop 0 sig) = ct from hG, d29 ⟨mB (by rw [c9A]; omega), d3m _ _⟩ ⟨mB (by omega), hct.2⟩, Option.bind_some]
        by_cases h8 : c5q mu High = ct
        ·rw [if_neg (by rw [decide_eq_true h8]; simp), if_neg (fun h => h h8)]; rfl
        ·rw [if_pos (by rw [decide_eq_false h8]; simp), if_pos h8]; rfl
       ·rw [c1u h7, if_pos rfl, c9C h7]; rfl
      ·rw [if_pos h6, if_pos h6]; rfl
     ·rw [if_pos h5, if_pos h5]; rfl
    ·refine ((d6m (L1 := mu.length) (L2 := pk.length) (mu := mu) (pk := pk) h3 hsig.2 hZ5 _).2 h4).trans ?_
     rw [c9C h4]; rfl
   ·rw [if_pos (c := sig.length ≠ 3309) h3, if_pos (by omega)]; rfl
 ·rw [if_pos (c := pk.length ≠ 1952) h1, if_pos (by omega)]; rfl
theorem c3C {pk msg ctx sig : List Int} (h1 : pk.length ≤ maxLen ∧ bytes pk) (h2 : msg.length ≤ maxLen ∧ bytes msg) (h3 : ctx.length ≤ maxLen ∧ bytes ctx) (h4 : sig.length ≤ maxLen ∧ bytes sig) : a3L (pk, msg, ctx, sig, ()) = some (d0V pk msg ctx sig) :=
 c7 (ks := a0q) (rs := a5o) (x := (pk, msg, ctx, sig, ())) ⟨a4h.2 h1, a4h.2 h2, a4h.2 h3, a4h.2 h4, trivial⟩ trivial
end Go.Ax.TryP
